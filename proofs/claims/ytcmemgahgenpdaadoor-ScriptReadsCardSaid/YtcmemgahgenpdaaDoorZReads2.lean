/- The law ScriptReads: what its proof takes, part 3 of 5 (packed by wip/gen/pack.py: each section was a text of its own). -/
import Derived.Test.YtcmemgahgenpdaaDoorZReads0
import Derived.Test.YtcmemgahgenpdaaDoorZReads1
import Derived.Lib.IndexMore
import Derived.Lib.IndexBytes
section
namespace Go.Proofs.YtcmemgahgenpdaaDoor.PSc
open Go.Proofs.YtcmemgahgenpdaaDoor.Hand Go.RowKit Go.Proofs.YtcmemgahgenpdaaDoorW.PrintWords Go.Proofs.YtcmemgahgenpdaaDoorW.PrintLast Go.Proofs.YtcmemgahgenpdaaDoorW.PrintMore
attribute [local go_sem] max2_int min2_int max_two min_two max_three min_three max_four min_four
set_option linter.unusedVariables false
set_option linter.unusedSimpArgs false
def script_Text.l0 : Nat → List ByteArray → List ByteArray → Int → Int → Int → List ByteArray → List ByteArray → Int → ByteArray → Option (ByteArray)
 | 0, _, _, _, _, _, _, _, _, _ => none
 | k + 1, x3, x28, x29, x30, x179000, x179001, x179002, x179003, x179004 => if x30 < x29 then (if 0 ≤ x30 then (if x30 < (x28.length : Int) then ((script_word.f (rdOf ByteArray.empty x28 x30)).bind fun t193 => (if x3.length < 8796093022208 then (script_Text.l0 k (x3 ++ [t193]) x28 x29 (wrap64 (x30 + 1)) x179000 x179001 x179002 x179003 x179004) else (none))) else (none)) else (none)) else ((script_word.f x179004).bind fun t197 => (if x3.length < 8796093022208 then ((script_joined.f (x3 ++ [t197])).bind fun t201 => (some t201)) else (none)))
def script_Text.f (k : Nat) (a0_0 : Int) (l0_1 : List ByteArray) (l0_2 : List ByteArray) (a0_3 : Int) (a0_4 : ByteArray) : Option (ByteArray) := (strconv_Itoa_20.f a0_0).bind fun t179 => ((strconv_Itoa_20.f a0_3).bind fun t180 => ((strconv_Itoa_20.f (l0_1.length : Int)).bind fun t181 => ((some (([t179, t180, t181] : List ByteArray) : List ByteArray)).bind fun y182 => (if y182.length + l0_1.length < 8796093022208 then ((some (y182 ++ l0_1 : List ByteArray)).bind fun y185 => ((strconv_Itoa_20.f (l0_2.length : Int)).bind fun t188 => (if y185.length < 8796093022208 then (script_Text.l0 k (y185 ++ [t188]) l0_2 (l0_2.length : Int) 0 a0_0 l0_1 l0_2 a0_3 a0_4) else (none)))) else (none)))))
def script_Text.T1 : Bool × List (List Nat × List Nat) := (true, [([], []), ([0], [0]), ([1], [1]), ([], []), ([3], [3]), ([4, 2], [4]), ([], []), ([6], [6]), ([7], [7]), ([8, 5], [8]), ([2, 5, 9], [2, 5, 9]), ([10, 9, 0, 1, 2, 3, 4, 5, 6, 7, 8, 9, 10], [10])])
def script_Text.B1 : List Nat := [0, 1, 3, 0, 8, 31, 0, 64, 192, 511, 1023, 2047]
theorem script_Text.tab1 : rtab .any (opsOf Tryd.f13 1) = script_Text.T1 := by kernel_rfl
theorem script_Text.bits1 : waitsOk script_Text.T1.2 script_Text.B1 = true := by kernel_rfl
def script_Text.T2 : Bool × List (List Nat × List Nat) := (true, [([], []), ([], []), ([1], [1]), ([0, 2], [0, 2]), ([], []), ([4], [4]), ([5], [5]), ([6, 3], [6]), ([7], [7]), ([3, 8, 7], [3, 8]), ([9, 9, 0, 1, 2, 3, 4, 5, 6, 7, 8, 9], [0, 9])])
def script_Text.B2 : List Nat := [0, 0, 2, 7, 0, 16, 48, 127, 255, 511, 1023]
theorem script_Text.tab2 : rtab .any (opsOf Tryd.f13 2) = script_Text.T2 := by kernel_rfl
theorem script_Text.bits2 : waitsOk script_Text.T2.2 script_Text.B2 = true := by kernel_rfl
set_option maxHeartbeats 8000000 in
set_option maxRecDepth 100000 in
theorem script_Text.calls (k : Nat) (a0_0 : Int) (A0_1 : Option Addr) (c0_1 : Nat) (l0_1 : List ByteArray) (A0_2 : Option Addr) (c0_2 : Nat) (l0_2 : List ByteArray) (a0_3 : Int) (a0_4 : ByteArray) (r : ByteArray) (w : World) (hr0_1 : Kd.C Kd.string w A0_1 l0_1.length l0_1) (hc0_1 : l0_1.length ≤ c0_1) (hr0_2 : Kd.C Kd.string w A0_2 l0_2.length l0_2) (hc0_2 : l0_2.length ≤ c0_2) (hWd : Wds w) (h : script_Text.f k a0_0 l0_1 l0_2 a0_3 a0_4 = some r) :
  Calls Tryd.prog 13 #[.agg #[.int .i64 a0_0, .slice A0_1 l0_1.length c0_1, .slice A0_2 l0_2.length c0_2, .int .i64 a0_3, .string a0_4]] w fun e w' => e = .returned (.string r) ∧ Below w.heap.size w w' := by
 have hu36 := Tryd.underlying36
 have HR0_1 := Aside0.mk hr0_1
 have HC0_1 := Aside0.mk hc0_1
 clear hr0_1 hc0_1
 have HR0_2 := Aside0.mk hr0_2
 have HC0_2 := Aside0.mk hc0_2
 clear hr0_2 hc0_2
 have HB := Aside0.mk (Below.refl w.heap.size w)
 have H : ((strconv_Itoa_20.f a0_0).bind fun t179 => ((strconv_Itoa_20.f a0_3).bind fun t180 => ((strconv_Itoa_20.f (l0_1.length : Int)).bind fun t181 => ((some (([t179, t180, t181] : List ByteArray) : List ByteArray)).bind fun y182 => (if y182.length + l0_1.length < 8796093022208 then ((some (y182 ++ l0_1 : List ByteArray)).bind fun y185 => ((strconv_Itoa_20.f (l0_2.length : Int)).bind fun t188 => (if y185.length < 8796093022208 then (script_Text.l0 k (y185 ++ [t188]) l0_2 (l0_2.length : Int) 0 a0_0 l0_1 l0_2 a0_3 a0_4) else (none)))) else (none)))))) = some r := h
 clear h
 replace H := Option.bind_eq_some_iff.mp H
 obtain ⟨t179, A20, H⟩ := H
 replace H : ((strconv_Itoa_20.f a0_3).bind fun t180 => ((strconv_Itoa_20.f (l0_1.length : Int)).bind fun t181 => ((some (([t179, t180, t181] : List ByteArray) : List ByteArray)).bind fun y182 => (if y182.length + l0_1.length < 8796093022208 then ((some (y182 ++ l0_1 : List ByteArray)).bind fun y185 => ((strconv_Itoa_20.f (l0_2.length : Int)).bind fun t188 => (if y185.length < 8796093022208 then (script_Text.l0 k (y185 ++ [t188]) l0_2 (l0_2.length : Int) 0 a0_0 l0_1 l0_2 a0_3 a0_4) else (none)))) else (none))))) = some r := H
 have A2 := Aside0.mk A20
 clear A20
 replace H := Option.bind_eq_some_iff.mp H
 obtain ⟨t180, A30, H⟩ := H
 replace H : ((strconv_Itoa_20.f (l0_1.length : Int)).bind fun t181 => ((some (([t179, t180, t181] : List ByteArray) : List ByteArray)).bind fun y182 => (if y182.length + l0_1.length < 8796093022208 then ((some (y182 ++ l0_1 : List ByteArray)).bind fun y185 => ((strconv_Itoa_20.f (l0_2.length : Int)).bind fun t188 => (if y185.length < 8796093022208 then (script_Text.l0 k (y185 ++ [t188]) l0_2 (l0_2.length : Int) 0 a0_0 l0_1 l0_2 a0_3 a0_4) else (none)))) else (none)))) = some r := H
 have A3 := Aside0.mk A30
 clear A30
 replace H := Option.bind_eq_some_iff.mp H
 obtain ⟨t181, A40, H⟩ := H
 replace H : ((some (([t179, t180, t181] : List ByteArray) : List ByteArray)).bind fun y182 => (if y182.length + l0_1.length < 8796093022208 then ((some (y182 ++ l0_1 : List ByteArray)).bind fun y185 => ((strconv_Itoa_20.f (l0_2.length : Int)).bind fun t188 => (if y185.length < 8796093022208 then (script_Text.l0 k (y185 ++ [t188]) l0_2 (l0_2.length : Int) 0 a0_0 l0_1 l0_2 a0_3 a0_4) else (none)))) else (none))) = some r := H
 have A4 := Aside0.mk A40
 clear A40
 obtain ⟨y182, hy182⟩ : ∃ y_ : List ByteArray, y_ = (([t179, t180, t181] : List ByteArray)) := ⟨_, rfl⟩
 replace H : (if y182.length + l0_1.length < 8796093022208 then ((some (y182 ++ l0_1 : List ByteArray)).bind fun y185 => ((strconv_Itoa_20.f (l0_2.length : Int)).bind fun t188 => (if y185.length < 8796093022208 then (script_Text.l0 k (y185 ++ [t188]) l0_2 (l0_2.length : Int) 0 a0_0 l0_1 l0_2 a0_3 a0_4) else (none)))) else (none)) = some r := by first | (rw [hy182]; with_reducible exact H) | (have H2_ := (Option.bind_some _ _).symm.trans H; rw [hy182]; with_reducible exact H2_) | (have H2_ := (Option.bind_some _ _).symm.trans H; with_reducible exact H2_) | with_reducible exact H | (rw [hy182]; exact H) | exact H
 have Ny182 := Aside0.mk hy182
 clear hy182
 by_cases c5 : y182.length + l0_1.length < 8796093022208
 ·rw [if_pos c5] at H
  have LMc5 := Aside0.mk c5
  clear c5
  obtain ⟨y185, hy185⟩ : ∃ y_ : List ByteArray, y_ = (y182 ++ l0_1) := ⟨_, rfl⟩
  replace H : ((strconv_Itoa_20.f (l0_2.length : Int)).bind fun t188 => (if y185.length < 8796093022208 then (script_Text.l0 k (y185 ++ [t188]) l0_2 (l0_2.length : Int) 0 a0_0 l0_1 l0_2 a0_3 a0_4) else (none))) = some r := by first | (rw [hy185]; with_reducible exact H) | (have H2_ := (Option.bind_some _ _).symm.trans H; rw [hy185]; with_reducible exact H2_) | (have H2_ := (Option.bind_some _ _).symm.trans H; with_reducible exact H2_) | with_reducible exact H | (rw [hy185]; exact H) | exact H
  have Ny185 := Aside0.mk hy185
  clear hy185
  replace H := Option.bind_eq_some_iff.mp H
  obtain ⟨t188, A60, H⟩ := H
  replace H : (if y185.length < 8796093022208 then (script_Text.l0 k (y185 ++ [t188]) l0_2 (l0_2.length : Int) 0 a0_0 l0_1 l0_2 a0_3 a0_4) else (none)) = some r := H
  have A6 := Aside0.mk A60
  clear A60
  by_cases c7 : y185.length < 8796093022208
  ·rw [if_pos c7] at H
   have LMc7 := Aside0.mk c7
   clear c7
   obtain ⟨y189, hy189⟩ : ∃ y_ : List ByteArray, y_ = (y185 ++ [t188]) := ⟨_, rfl⟩
   replace H : (script_Text.l0 k y189 l0_2 (l0_2.length : Int) 0 a0_0 l0_1 l0_2 a0_3 a0_4) = some r := by first | (rw [hy189]; with_reducible exact H) | (have H2_ := (Option.bind_some _ _).symm.trans H; rw [hy189]; with_reducible exact H2_) | (have H2_ := (Option.bind_some _ _).symm.trans H; with_reducible exact H2_) | with_reducible exact H | (rw [hy189]; exact H) | exact H
   have Ny189 := Aside0.mk hy189
   clear hy189
   have H' := Aside0.mk H
   clear H
   go_enter Tryd.func13, Tryd.ntmps13
   try go_wp2_with (first | ((with_reducible refine gate_dst (N := 1) rfl ?_); refine box_event ?hg (N := 1) ?hd (cs := #[.int .i64 a0_0, .slice A0_1 l0_1.length c0_1, .slice A0_2 l0_2.length c0_2, .int .i64 a0_3, .string a0_4]) (t := 36) ?hr ?_; (case hd => rfl); (case hg => rfl); (case hr => first | (go_simp; done) | (go_simp; rfl)); intro gb178 hg w8 hbox hb; have n0_ := Aside0.mk (below_step (by repeat (first | (with_reducible first | exact HB.out | apply below_alloc | apply pw_below_drewN | apply below_drew1) | exact HB.out)) hb); have n1_ := Aside0.mk (hbox); have n2_ := Aside0.mk ((by rw [hg]; exact (below_size (by repeat (first | (with_reducible first | exact HB.out | apply below_alloc | apply pw_below_drewN | apply below_drew1) | exact HB.out))) : w.heap.size ≤ gb178)); have n3_ := Aside0.mk ((by rw [hg]; exact (below_size (by repeat (first | (with_reducible first | exact HB.out | apply below_alloc | apply pw_below_drewN | apply below_drew1) | exact HB.out))) : w.heap.size ≤ gb178)); clear HB; have HB := n0_; have BK178 := n1_; have GW178 := n2_; have GE178 := n3_; clear n0_ n1_ n2_ n3_; clear hb hbox hg))
   have n0_ := Aside0.mk (blk_drew BK178.out)
   have n1_ := Aside0.mk (below_drew1 HB.out)
   clear BK178
   clear HB
   have BK178 := n0_
   have HB := n1_
   clear n0_ n1_
   refine start_ (n := 12) (S := fun w' => w'.cell? ⟨gb178, 0, none⟩ = some (.int .i64 a0_0) ∧ w'.cell? ⟨gb178, 1, none⟩ = some (.slice A0_1 l0_1.length c0_1) ∧ w'.cell? ⟨gb178, 2, none⟩ = some (.slice A0_2 l0_2.length c0_2) ∧ w'.cell? ⟨gb178, 3, none⟩ = some (.int .i64 a0_3) ∧ w'.cell? ⟨gb178, 4, none⟩ = some (.string a0_4)) (ds := []) #[false, false, false, false, false, false, false, false, false, false, false, false] (by kernel_rfl) rfl rfl ⟨(blk_cell BK178.out 0).trans rfl, (blk_cell BK178.out 1).trans rfl, (blk_cell BK178.out 2).trans rfl, (blk_cell BK178.out 3).trans rfl, (blk_cell BK178.out 4).trans rfl⟩ (fun hHeld => ?_); refine with_tabW script_Text.tab1 script_Text.bits1 (fun HT_ HW_ => ?_)
   generalize w8.drew = w9 at BK178 HB hHeld ⊢
   refine pure_ (i := 0) (N := some 6) (v := ?_) (a' := ?_) #[true, false, false, false, false, false, false, false, false, false, false, false] rfl rfl (any_of HT_.out (by kernel_rfl)) (fun _ _ _ h => h) (Or.inl ⟨by rfl, ?_⟩) ?_ ?_
   rotate_left
   ·intro w'
    go_simp
    with_reducible rfl
   rotate_left
   ·simp only [Act.put, List.setIfInBounds_toArray, List.set_cons_zero, List.set_cons_succ, i64_w, i32_w]
    rfl
   refine pure_ (i := 3) (N := some 9) (v := ?_) (a' := ?_) #[true, false, false, true, false, false, false, false, false, false, false, false] rfl rfl (any_of HT_.out (by kernel_rfl)) (fun _ _ _ h => h) (Or.inl ⟨by rfl, ?_⟩) ?_ ?_
   rotate_left
   ·intro w'
    go_simp
    with_reducible rfl
   rotate_left
   ·simp only [Act.put, List.setIfInBounds_toArray, List.set_cons_zero, List.set_cons_succ, i64_w, i32_w]
    rfl
   refine pure_ (i := 6) (N := some 12) (v := ?_) (a' := ?_) #[true, false, false, true, false, false, true, false, false, false, false, false] rfl rfl (any_of HT_.out (by kernel_rfl)) (fun _ _ _ h => h) (Or.inl ⟨by rfl, ?_⟩) ?_ ?_
   rotate_left
   ·intro w'
    go_simp
    with_reducible rfl
   rotate_left
   ·simp only [Act.put, List.setIfInBounds_toArray, List.set_cons_zero, List.set_cons_succ, i64_w, i32_w]
    rfl
   refine take_ (i := 1) (N := some 7) (v := ?_) (a' := ?_) #[true, true, false, true, false, false, true, false, false, false, false, false] rfl rfl (take_ofW HT_.out HW_.out (by kernel_rfl)) (fun _ _ _ h => h) (Or.inl ⟨by rfl, ?_⟩) hHeld ?_ ?_
   rotate_left
   ·rintro w' ⟨s0, s1, s2, s3, s4⟩
    go_simp
    with_reducible rfl
   rotate_left
   ·simp only [Act.put, List.setIfInBounds_toArray, List.set_cons_zero, List.set_cons_succ, i64_w, i32_w]
    rfl
   refine take_ (i := 4) (N := some 10) (v := ?_) (a' := ?_) #[true, true, false, true, true, false, true, false, false, false, false, false] rfl rfl (take_ofW HT_.out HW_.out (by kernel_rfl)) (fun _ _ _ h => h) (Or.inl ⟨by rfl, ?_⟩) hHeld ?_ ?_
   rotate_left
   ·rintro w' ⟨s0, s1, s2, s3, s4⟩
    go_simp
    with_reducible rfl
   rotate_left
   ·simp only [Act.put, List.setIfInBounds_toArray, List.set_cons_zero, List.set_cons_succ, i64_w, i32_w]
    rfl
   refine take_ (i := 7) (N := some 13) (v := ?_) (a' := ?_) #[true, true, false, true, true, false, true, true, false, false, false, false] rfl rfl (take_ofW HT_.out HW_.out (by kernel_rfl)) (fun _ _ _ h => h) (Or.inl ⟨by rfl, ?_⟩) hHeld ?_ ?_
   rotate_left
   ·rintro w' ⟨s0, s1, s2, s3, s4⟩
    go_simp
    with_reducible rfl
   rotate_left
   ·simp only [Act.put, List.setIfInBounds_toArray, List.set_cons_zero, List.set_cons_succ, i64_w, i32_w]
    rfl
   refine pure_ (i := 8) (N := some 14) (v := ?_) (a' := ?_) #[true, true, false, true, true, false, true, true, true, false, false, false] rfl rfl (any_of HT_.out (by kernel_rfl)) (fun _ _ _ h => h) (Or.inl ⟨by rfl, ?_⟩) ?_ ?_
   rotate_left
   ·intro w'
    go_simp
    with_reducible rfl
   rotate_left
   ·simp only [Act.put, List.setIfInBounds_toArray, List.set_cons_zero, List.set_cons_succ, i64_w, i32_w]
    rfl
   refine one_ (i := 2) (N := some 8) #[true, true, true, true, true, false, true, true, true, false, false, false] rfl rfl (one_of HT_.out (by kernel_rfl)) (by decide) (fun K hK => ?_)
   refine goes_ Tryd.func20 (by kernel_rfl) rfl #[.int .i64 a0_0] (by rfl) rfl rfl (by (try simp only [List.map_toArray, List.map_cons, List.map_nil]); first | done | rfl | (simp only [List.length_drop, List.length_take]; rfl)) ?_
   with_reducible refine (strconv_Itoa_20.calls a0_0 t179 _ (hWd.below (by repeat (first | (with_reducible first | exact HB.out | apply below_alloc | apply pw_below_drewN | apply below_drew1 | refine below_set ?_ GE178.out) | exact HB.out))) A2.out).mono ?_
   rintro e w10 ⟨rfl, hb⟩
   refine ⟨_, rfl, ?_⟩
   have n0_ := Aside0.mk (blk_below (g := gb178) (o := .cells #[.int .i64 a0_0, .slice A0_1 l0_1.length c0_1, .slice A0_2 l0_2.length c0_2, .int .i64 a0_3, .string a0_4] 36 (0, 0)) (by (with_reducible repeat (first | refine blk_drewN ?_ _ | refine blk_drew ?_ | refine blk_alloc ?_ _)); exact BK178.out) hb)
   have n1_ := Aside0.mk (below_step (by repeat (first | (with_reducible first | exact HB.out | apply below_alloc | apply pw_below_drewN | apply below_drew1 | refine below_set ?_ GE178.out) | exact HB.out)) hb)
   clear BK178
   clear HB
   have BK178 := n0_
   have HB := n1_
   clear n0_ n1_
   (try clear hb)
   (try clear hb2)
   (try clear hk)
   (try clear hi)
   refine hK.out _ _ ⟨(blk_cell BK178.out 0).trans rfl, (blk_cell BK178.out 1).trans rfl, (blk_cell BK178.out 2).trans rfl, (blk_cell BK178.out 3).trans rfl, (blk_cell BK178.out 4).trans rfl⟩ (fun hHeld => ?_)
   clear hK K
   refine norm_ (a' := ?_) ?_ ?_
   rotate_left
   ·show Act.put _ (some 8) _ = _
    simp only [Act.put, List.setIfInBounds_toArray, List.set_cons_zero, List.set_cons_succ, i64_w, i32_w]
    rfl
   refine one_ (i := 5) (N := some 11) #[true, true, true, true, true, true, true, true, true, false, false, false] rfl rfl (one_of HT_.out (by kernel_rfl)) (by decide) (fun K hK => ?_)
   refine goes_ Tryd.func20 (by kernel_rfl) rfl #[.int .i64 a0_3] (by rfl) rfl rfl (by (try simp only [List.map_toArray, List.map_cons, List.map_nil]); first | done | rfl | (simp only [List.length_drop, List.length_take]; rfl)) ?_
   with_reducible refine (strconv_Itoa_20.calls a0_3 t180 _ (hWd.below (by repeat (first | (with_reducible first | exact HB.out | apply below_alloc | apply pw_below_drewN | apply below_drew1 | refine below_set ?_ GE178.out) | exact HB.out))) A3.out).mono ?_
   rintro e w11 ⟨rfl, hb⟩
   refine ⟨_, rfl, ?_⟩
   have n0_ := Aside0.mk (blk_below (g := gb178) (o := .cells #[.int .i64 a0_0, .slice A0_1 l0_1.length c0_1, .slice A0_2 l0_2.length c0_2, .int .i64 a0_3, .string a0_4] 36 (0, 0)) (by (with_reducible repeat (first | refine blk_drewN ?_ _ | refine blk_drew ?_ | refine blk_alloc ?_ _)); exact BK178.out) hb)
   have n1_ := Aside0.mk (below_step (by repeat (first | (with_reducible first | exact HB.out | apply below_alloc | apply pw_below_drewN | apply below_drew1 | refine below_set ?_ GE178.out) | exact HB.out)) hb)
   clear BK178
   clear HB
   have BK178 := n0_
   have HB := n1_
   clear n0_ n1_
   (try clear hb)
   (try clear hb2)
   (try clear hk)
   (try clear hi)
   refine hK.out _ _ ⟨(blk_cell BK178.out 0).trans rfl, (blk_cell BK178.out 1).trans rfl, (blk_cell BK178.out 2).trans rfl, (blk_cell BK178.out 3).trans rfl, (blk_cell BK178.out 4).trans rfl⟩ (fun hHeld => ?_)
   clear hK K
   refine norm_ (a' := ?_) ?_ ?_
   rotate_left
   ·show Act.put _ (some 11) _ = _
    simp only [Act.put, List.setIfInBounds_toArray, List.set_cons_zero, List.set_cons_succ, i64_w, i32_w]
    rfl
   refine one_ (i := 9) (N := some 15) #[true, true, true, true, true, true, true, true, true, true, false, false] rfl rfl (one_of HT_.out (by kernel_rfl)) (by decide) (fun K hK => ?_)
   refine goes_ Tryd.func20 (by kernel_rfl) rfl #[.int .i64 (l0_1.length : Int)] (by rfl) rfl rfl (by (try simp only [List.map_toArray, List.map_cons, List.map_nil]); first | done | rfl | (simp only [List.length_drop, List.length_take]; rfl)) ?_
   with_reducible refine (strconv_Itoa_20.calls (l0_1.length : Int) t181 _ (hWd.below (by repeat (first | (with_reducible first | exact HB.out | apply below_alloc | apply pw_below_drewN | apply below_drew1 | refine below_set ?_ GE178.out) | exact HB.out))) A4.out).mono ?_
   rintro e w12 ⟨rfl, hb⟩
   refine ⟨_, rfl, ?_⟩
   have n0_ := Aside0.mk (blk_below (g := gb178) (o := .cells #[.int .i64 a0_0, .slice A0_1 l0_1.length c0_1, .slice A0_2 l0_2.length c0_2, .int .i64 a0_3, .string a0_4] 36 (0, 0)) (by (with_reducible repeat (first | refine blk_drewN ?_ _ | refine blk_drew ?_ | refine blk_alloc ?_ _)); exact BK178.out) hb)
   have n1_ := Aside0.mk (below_step (by repeat (first | (with_reducible first | exact HB.out | apply below_alloc | apply pw_below_drewN | apply below_drew1 | refine below_set ?_ GE178.out) | exact HB.out)) hb)
   clear BK178
   clear HB
   have BK178 := n0_
   have HB := n1_
   clear n0_ n1_
   (try clear hb)
   (try clear hb2)
   (try clear hk)
   (try clear hi)
   refine hK.out _ _ ⟨(blk_cell BK178.out 0).trans rfl, (blk_cell BK178.out 1).trans rfl, (blk_cell BK178.out 2).trans rfl, (blk_cell BK178.out 3).trans rfl, (blk_cell BK178.out 4).trans rfl⟩ (fun hHeld => ?_)
   clear hK K
   refine norm_ (a' := ?_) ?_ ?_
   rotate_left
   ·show Act.put _ (some 15) _ = _
    simp only [Act.put, List.setIfInBounds_toArray, List.set_cons_zero, List.set_cons_succ, i64_w, i32_w]
    rfl
   refine one_ (i := 10) (N := some 16) #[true, true, true, true, true, true, true, true, true, true, true, false] rfl rfl (one_of HT_.out (by kernel_rfl)) (by decide) (fun K hK => ?_)
   refine Kd.R_lit_step Kd.string _ 9 ?hg (N := 16) ?hd (xs := ([t179, t180, t181] : List ByteArray)) (inner := [.string t179, .string t180, .string t181]) (ok := fun _ => True) (okp := fun _ => True) ?hr ?hp (fun _ hk => hk) trivial (Below.refl _ _) (Nat.le_refl _) (by simp) ?_; (case hd => rfl); (case hg => rfl); (case hr => first | (go_simp; done) | (go_simp; rfl)); (case hp => exact (Reps.one (show Kd.M Kd.string _ _ _ t179 [.string t179] from rfl) (Reps.one (show Kd.M Kd.string _ _ _ t180 [.string t180] from rfl) (Reps.one (show Kd.M Kd.string _ _ _ t181 [.string t181] from rfl) (Reps.none _ _)))))
   intro v183 w13 ho14 hb hg_ hnew_
   clear hg_ hnew_
   (first | rw [← Ny182.out] at ho14 | (simp only [Int.reduceToNat] at ho14; rw [← Ny182.out] at ho14))
   have n0_ := Aside0.mk (Kd.R_lower ho14 (below_size (by repeat (first | (with_reducible first | exact HB.out | apply below_alloc | apply pw_below_drewN | apply below_drew1 | refine below_set ?_ GE178.out) | exact HB.out))))
   have n1_ := Aside0.mk (blk_below (g := gb178) (o := .cells #[.int .i64 a0_0, .slice A0_1 l0_1.length c0_1, .slice A0_2 l0_2.length c0_2, .int .i64 a0_3, .string a0_4] 36 (0, 0)) (by (with_reducible repeat (first | refine blk_drewN ?_ _ | refine blk_drew ?_ | refine blk_alloc ?_ _)); exact BK178.out) hb)
   have n2_ := Aside0.mk (below_step (by repeat (first | (with_reducible first | exact HB.out | apply below_alloc | apply pw_below_drewN | apply below_drew1 | refine below_set ?_ GE178.out) | exact HB.out)) hb)
   clear BK178
   clear HB
   have HO184 := n0_
   have BK178 := n1_
   have HB := n2_
   clear n0_ n1_ n2_
   clear hb ho14
   refine hK.out _ _ ⟨(blk_cell BK178.out 0).trans rfl, (blk_cell BK178.out 1).trans rfl, (blk_cell BK178.out 2).trans rfl, (blk_cell BK178.out 3).trans rfl, (blk_cell BK178.out 4).trans rfl⟩ (fun hHeld => ?_)
   clear hK K
   refine norm_ (a' := ?_) ?_ ?_
   rotate_left
   ·show Act.put _ (some 16) _ = _
    simp only [Act.put, List.setIfInBounds_toArray, List.set_cons_zero, List.set_cons_succ, i64_w, i32_w]
    rfl
   refine pure_ (i := 11) (N := some 3) (v := ?_) (a' := ?_) #[true, true, true, true, true, true, true, true, true, true, true, true] rfl rfl (any_of HT_.out (by kernel_rfl)) (fun _ _ _ h => h) (Or.inl ⟨by rfl, ?_⟩) ?_ ?_
   rotate_left
   ·intro w'
    go_simp
    with_reducible rfl
   rotate_left
   ·simp only [Act.put, List.setIfInBounds_toArray, List.set_cons_zero, List.set_cons_succ, i64_w, i32_w]
    rfl
   refine done_ (done_of HT_.out (by kernel_rfl)) ?_
   try go_wp2
   have n0_ := Aside0.mk (Kd.R_drew HO184.out)
   have n1_ := Aside0.mk (blk_drew BK178.out)
   have n2_ := Aside0.mk (below_drew1 HB.out)
   clear HO184
   clear BK178
   clear HB
   have HO184 := n0_
   have BK178 := n1_
   have HB := n2_
   clear n0_ n1_ n2_
   refine start_ (n := 11) (S := fun w' => w'.cell? ⟨gb178, 0, none⟩ = some (.int .i64 a0_0) ∧ w'.cell? ⟨gb178, 1, none⟩ = some (.slice A0_1 l0_1.length c0_1) ∧ w'.cell? ⟨gb178, 2, none⟩ = some (.slice A0_2 l0_2.length c0_2) ∧ w'.cell? ⟨gb178, 3, none⟩ = some (.int .i64 a0_3) ∧ w'.cell? ⟨gb178, 4, none⟩ = some (.string a0_4)) (ds := []) #[false, false, false, false, false, false, false, false, false, false, false] (by kernel_rfl) rfl rfl ⟨(blk_cell BK178.out 0).trans rfl, (blk_cell BK178.out 1).trans rfl, (blk_cell BK178.out 2).trans rfl, (blk_cell BK178.out 3).trans rfl, (blk_cell BK178.out 4).trans rfl⟩ (fun hHeld => ?_); refine with_tabW script_Text.tab2 script_Text.bits2 (fun HT_ HW_ => ?_)
   generalize w13.drew = w15 at HO184 BK178 HB hHeld ⊢
   refine pure_ (i := 0) (N := some 17) (v := ?_) (a' := ?_) #[true, false, false, false, false, false, false, false, false, false, false] rfl rfl (any_of HT_.out (by kernel_rfl)) (fun _ _ _ h => h) (Or.inl ⟨by rfl, ?_⟩) ?_ ?_
   rotate_left
   ·intro w'
    go_simp
    with_reducible rfl
   rotate_left
   ·simp only [Act.put, List.setIfInBounds_toArray, List.set_cons_zero, List.set_cons_succ, i64_w, i32_w]
    rfl
   refine pure_ (i := 1) (N := some 18) (v := ?_) (a' := ?_) #[true, true, false, false, false, false, false, false, false, false, false] rfl rfl (any_of HT_.out (by kernel_rfl)) (fun _ _ _ h => h) (Or.inl ⟨by rfl, ?_⟩) ?_ ?_
   rotate_left
   ·intro w'
    go_simp
    with_reducible rfl
   rotate_left
   ·simp only [Act.put, List.setIfInBounds_toArray, List.set_cons_zero, List.set_cons_succ, i64_w, i32_w]
    rfl
   refine pure_ (i := 4) (N := some 21) (v := ?_) (a' := ?_) #[true, true, false, false, true, false, false, false, false, false, false] rfl rfl (any_of HT_.out (by kernel_rfl)) (fun _ _ _ h => h) (Or.inl ⟨by rfl, ?_⟩) ?_ ?_
   rotate_left
   ·intro w'
    go_simp
    with_reducible rfl
   rotate_left
   ·simp only [Act.put, List.setIfInBounds_toArray, List.set_cons_zero, List.set_cons_succ, i64_w, i32_w]
    rfl
   refine take_ (i := 2) (N := some 19) (v := ?_) (a' := ?_) #[true, true, true, false, true, false, false, false, false, false, false] rfl rfl (take_ofW HT_.out HW_.out (by kernel_rfl)) (fun _ _ _ h => h) (Or.inl ⟨by rfl, ?_⟩) hHeld ?_ ?_
   rotate_left
   ·rintro w' ⟨s0, s1, s2, s3, s4⟩
    go_simp
    with_reducible rfl
   rotate_left
   ·simp only [Act.put, List.setIfInBounds_toArray, List.set_cons_zero, List.set_cons_succ, i64_w, i32_w]
    rfl
   refine take_ (i := 5) (N := some 22) (v := ?_) (a' := ?_) #[true, true, true, false, true, true, false, false, false, false, false] rfl rfl (take_ofW HT_.out HW_.out (by kernel_rfl)) (fun _ _ _ h => h) (Or.inl ⟨by rfl, ?_⟩) hHeld ?_ ?_
   rotate_left
   ·rintro w' ⟨s0, s1, s2, s3, s4⟩
    go_simp
    with_reducible rfl
   rotate_left
   ·simp only [Act.put, List.setIfInBounds_toArray, List.set_cons_zero, List.set_cons_succ, i64_w, i32_w]
    rfl
   refine pure_ (i := 6) (N := some 23) (v := ?_) (a' := ?_) #[true, true, true, false, true, true, true, false, false, false, false] rfl rfl (any_of HT_.out (by kernel_rfl)) (fun _ _ _ h => h) (Or.inl ⟨by rfl, ?_⟩) ?_ ?_
   rotate_left
   ·intro w'
    go_simp
    with_reducible rfl
   rotate_left
   ·simp only [Act.put, List.setIfInBounds_toArray, List.set_cons_zero, List.set_cons_succ, i64_w, i32_w]
    rfl
   refine one_ (i := 3) (N := some 20) #[true, true, true, true, true, true, true, false, false, false, false] rfl rfl (one_of HT_.out (by kernel_rfl)) (by decide) (fun K hK => ?_)
   refine Kd.R_append_rows_step Kd.string (w0 := w) w.heap.size (by rfl) (.tmp 17) (.tmp 19) 22 9 (.string ⟨#[]⟩) 16 rfl Tryd.underlying22 info9 rfl (by decide) (by omega) v183 y182 l0_1 _ _ _ (fun _ => True) (fun _ => False) rfl rfl ?aO ?aR (fun _ _ h => h) (fun _ h => h.elim) ?aF ?aB ?aS ?aL ?_
   (case aR => repeat (first | exact (Kd.C_below HR0_1.out HB.out) | (with_reducible refine Kd.C_alloc ?_ _) | (with_reducible refine Kd.C_drewN ?_ _) | (with_reducible refine Kd.C_drew ?_)))
   (case aB => exact (by repeat (first | (with_reducible first | exact HB.out | apply below_alloc | apply pw_below_drewN | apply below_drew1 | refine below_set ?_ GE178.out) | exact HB.out)))
   (case aF => exact (fun _ _ => trivial))
   (case aO => exact (by (with_reducible repeat (first | apply Kd.R_alloc | apply Kd.R_drewN | apply Kd.R_drew)); exact HO184.out))
   (case aS => exact (below_size (by repeat (first | (with_reducible first | exact HB.out | apply below_alloc | apply pw_below_drewN | apply below_drew1 | refine below_set ?_ GE178.out) | exact HB.out))))
   (case aL => have := LMc5.out; omega)
   intro v186 w16 ho hb hg hat
   rw [← Ny185.out] at ho
   have n0_ := Aside0.mk (blk_grown (g := gb178) (o := .cells #[.int .i64 a0_0, .slice A0_1 l0_1.length c0_1, .slice A0_2 l0_2.length c0_2, .int .i64 a0_3, .string a0_4] 36 (0, 0)) (by (with_reducible repeat (first | refine blk_drewN ?_ _ | refine blk_drew ?_ | refine blk_alloc ?_ _)); exact BK178.out) hg (Kd.R_ne HO184.out BK178.out (by decide)))
   have n1_ := Aside0.mk (hb)
   have n2_ := Aside0.mk (ho)
   clear BK178
   clear HB
   clear HO184
   have BK178 := n0_
   have HB := n1_
   have HO187 := n2_
   clear n0_ n1_ n2_
   clear ho hb hg hat
   refine hK.out _ _ ⟨(blk_cell BK178.out 0).trans rfl, (blk_cell BK178.out 1).trans rfl, (blk_cell BK178.out 2).trans rfl, (blk_cell BK178.out 3).trans rfl, (blk_cell BK178.out 4).trans rfl⟩ (fun hHeld => ?_)
   clear hK K
   refine norm_ (a' := ?_) ?_ ?_
   rotate_left
   ·show Act.put _ (some 20) _ = _
    simp only [Act.put, List.setIfInBounds_toArray, List.set_cons_zero, List.set_cons_succ, i64_w, i32_w]
    rfl
   refine one_ (i := 7) (N := some 24) #[true, true, true, true, true, true, true, true, false, false, false] rfl rfl (one_of HT_.out (by kernel_rfl)) (by decide) (fun K hK => ?_)
   refine goes_ Tryd.func20 (by kernel_rfl) rfl #[.int .i64 (l0_2.length : Int)] (by rfl) rfl rfl (by (try simp only [List.map_toArray, List.map_cons, List.map_nil]); first | done | rfl | (simp only [List.length_drop, List.length_take]; rfl)) ?_
   with_reducible refine (strconv_Itoa_20.calls (l0_2.length : Int) t188 _ (hWd.below (by repeat (first | (with_reducible first | exact HB.out | apply below_alloc | apply pw_below_drewN | apply below_drew1 | refine below_set ?_ GE178.out) | exact HB.out))) A6.out).mono ?_
   rintro e w17 ⟨rfl, hb⟩
   refine ⟨_, rfl, ?_⟩
   have n0_ := Aside0.mk (Kd.R_below (by (with_reducible repeat (first | apply Kd.R_alloc | apply Kd.R_drewN | apply Kd.R_drew)); exact HO187.out) hb)
   have n1_ := Aside0.mk (blk_below (g := gb178) (o := .cells #[.int .i64 a0_0, .slice A0_1 l0_1.length c0_1, .slice A0_2 l0_2.length c0_2, .int .i64 a0_3, .string a0_4] 36 (0, 0)) (by (with_reducible repeat (first | refine blk_drewN ?_ _ | refine blk_drew ?_ | refine blk_alloc ?_ _)); exact BK178.out) hb)
   have n2_ := Aside0.mk (below_step (by repeat (first | (with_reducible first | exact HB.out | apply below_alloc | apply pw_below_drewN | apply below_drew1 | refine below_set ?_ GE178.out) | exact HB.out)) hb)
   clear HO187
   clear BK178
   clear HB
   have HO187 := n0_
   have BK178 := n1_
   have HB := n2_
   clear n0_ n1_ n2_
   (try clear hb)
   (try clear hb2)
   (try clear hk)
   (try clear hi)
   refine hK.out _ _ ⟨(blk_cell BK178.out 0).trans rfl, (blk_cell BK178.out 1).trans rfl, (blk_cell BK178.out 2).trans rfl, (blk_cell BK178.out 3).trans rfl, (blk_cell BK178.out 4).trans rfl⟩ (fun hHeld => ?_)
   clear hK K
   refine norm_ (a' := ?_) ?_ ?_
   rotate_left
   ·show Act.put _ (some 24) _ = _
    simp only [Act.put, List.setIfInBounds_toArray, List.set_cons_zero, List.set_cons_succ, i64_w, i32_w]
    rfl
   refine one_ (i := 8) (N := some 25) #[true, true, true, true, true, true, true, true, true, false, false] rfl rfl (one_of HT_.out (by kernel_rfl)) (by decide) (fun K hK => ?_)
   refine value_ (w1 := ?_) (v := ?_) (by rfl) rfl ?_ ?_
   rotate_left 2
   ·go_simp
    constructor
    ·rfl
    ·rfl
   refine hK.out _ _ ⟨(blk_cell (blk_alloc BK178.out _) 0).trans rfl, (blk_cell (blk_alloc BK178.out _) 1).trans rfl, (blk_cell (blk_alloc BK178.out _) 2).trans rfl, (blk_cell (blk_alloc BK178.out _) 3).trans rfl, (blk_cell (blk_alloc BK178.out _) 4).trans rfl⟩ (fun hHeld => ?_)
   clear hK K
   refine norm_ (a' := ?_) ?_ ?_
   rotate_left
   ·show Act.put _ (some 25) _ = _
    simp only [Act.put, List.setIfInBounds_toArray, List.set_cons_zero, List.set_cons_succ, i64_w, i32_w]
    rfl
   refine one_ (i := 9) (N := some 26) #[true, true, true, true, true, true, true, true, true, true, false] rfl rfl (one_of HT_.out (by kernel_rfl)) (by decide) (fun K hK => ?_)
   refine Kd.R_append_step Kd.string (w0 := w) w.heap.size (by rfl) (.tmp 20) (.tmp 25) 22 9 (.string ⟨#[]⟩) 16 rfl Tryd.underlying22 info9 rfl (by decide) (by omega) v186 y185 t188 [.string t188] (fun _ => True) (fun _ => False) rfl rfl ?aP (fun _ hk => hk.elim) ?aF ?aO ?aB ?aS ?aL ?_
   (case aP => exact rfl)
   (case aB => exact (by repeat (first | (with_reducible first | exact HB.out | apply below_alloc | apply pw_below_drewN | apply below_drew1 | refine below_set ?_ GE178.out) | exact HB.out)))
   (case aF => exact (fun _ _ => trivial))
   (case aO => exact (by (with_reducible repeat (first | apply Kd.R_alloc | apply Kd.R_drewN | apply Kd.R_drew)); exact HO187.out))
   (case aS => exact (below_size (by repeat (first | (with_reducible first | exact HB.out | apply below_alloc | apply pw_below_drewN | apply below_drew1 | refine below_set ?_ GE178.out) | exact HB.out))))
   (case aL => have := LMc7.out; omega)
   intro v190 w18 ho hb hg hat
   rw [← Ny189.out] at ho
   have n0_ := Aside0.mk (blk_grown (g := gb178) (o := .cells #[.int .i64 a0_0, .slice A0_1 l0_1.length c0_1, .slice A0_2 l0_2.length c0_2, .int .i64 a0_3, .string a0_4] 36 (0, 0)) (by (with_reducible repeat (first | refine blk_drewN ?_ _ | refine blk_drew ?_ | refine blk_alloc ?_ _)); exact BK178.out) hg (Kd.R_ne HO187.out BK178.out (by decide)))
   have n1_ := Aside0.mk (hb)
   have n2_ := Aside0.mk (ho)
   clear BK178
   clear HB
   clear HO187
   have BK178 := n0_
   have HB := n1_
   have HO191 := n2_
   clear n0_ n1_ n2_
   clear ho hb hg hat
   refine hK.out _ _ ⟨(blk_cell BK178.out 0).trans rfl, (blk_cell BK178.out 1).trans rfl, (blk_cell BK178.out 2).trans rfl, (blk_cell BK178.out 3).trans rfl, (blk_cell BK178.out 4).trans rfl⟩ (fun hHeld => ?_)
   clear hK K
   refine norm_ (a' := ?_) ?_ ?_
   rotate_left
   ·show Act.put _ (some 26) _ = _
    simp only [Act.put, List.setIfInBounds_toArray, List.set_cons_zero, List.set_cons_succ, i64_w, i32_w]
    rfl
   refine pure_ (i := 10) (N := some 3) (v := ?_) (a' := ?_) #[true, true, true, true, true, true, true, true, true, true, true] rfl rfl (any_of HT_.out (by kernel_rfl)) (fun _ _ _ h => h) (Or.inl ⟨by rfl, ?_⟩) ?_ ?_
   rotate_left
   ·intro w'
    go_simp
    with_reducible rfl
   rotate_left
   ·simp only [Act.put, List.setIfInBounds_toArray, List.set_cons_zero, List.set_cons_succ, i64_w, i32_w]
    rfl
   refine done_ (done_of HT_.out (by kernel_rfl)) ?_
   have hcz19_0 : w18.cell? ⟨gb178, 0, none⟩ = some (.int .i64 a0_0) := (blk_cell BK178.out 0).trans rfl
   have hcz19_1 : w18.cell? ⟨gb178, 1, none⟩ = some (.slice A0_1 l0_1.length c0_1) := (blk_cell BK178.out 1).trans rfl
   have hcz19_2 : w18.cell? ⟨gb178, 2, none⟩ = some (.slice A0_2 l0_2.length c0_2) := (blk_cell BK178.out 2).trans rfl
   have hcz19_3 : w18.cell? ⟨gb178, 3, none⟩ = some (.int .i64 a0_3) := (blk_cell BK178.out 3).trans rfl
   have hcz19_4 : w18.cell? ⟨gb178, 4, none⟩ = some (.string a0_4) := (blk_cell BK178.out 4).trans rfl
   have hfz19_0 := blk_frozen BK178.out 0
   have hfz19_1 := blk_frozen BK178.out 1
   have hfz19_2 := blk_frozen BK178.out 2
   have hfz19_3 := blk_frozen BK178.out 3
   have hfz19_4 := blk_frozen BK178.out 4
   try go_wp2
   go_loopg [3, 30] k (fun kq v3 v30 w' => ∃ (x3_1 : List ByteArray) (x30_1 : Int), v30 = .int .i64 x30_1 ∧ Aside0 (script_Text.l0 kq x3_1 l0_2 (l0_2.length : Int) x30_1 a0_0 l0_1 l0_2 a0_3 a0_4 = some r) ∧ Aside0 (kq ≤ k) ∧ Aside0 (Kd.R Kd.string 9 w' w.heap.size (fun _ => True) v3 x3_1) ∧ Aside0 (w'.heap[gb178]? = some (.cells #[.int .i64 a0_0, (.slice A0_1 l0_1.length c0_1), (.slice A0_2 l0_2.length c0_2), .int .i64 a0_3, .string a0_4] 36 (0, 0))) ∧ Aside0 (Below w.heap.size w w'))
   case atStart => exact ⟨(y189), (0), (by first | rfl | (simp; done) | (simp [*]; done)), H', ⟨Nat.le_refl _⟩, ⟨by (with_reducible repeat (first | apply Kd.R_alloc | apply Kd.R_drewN | apply Kd.R_drew)); exact HO191.out⟩, ⟨by (with_reducible repeat (first | refine blk_drewN ?_ _ | refine blk_drew ?_ | refine blk_alloc ?_ _)); exact BK178.out⟩, ⟨by repeat (first | (with_reducible first | exact HB.out | apply below_alloc | apply pw_below_drewN | apply below_drew1 | refine below_set ?_ GE178.out) | exact HB.out)⟩⟩
   case round =>
    clear H'
    try clear c1
    try clear c2
    try clear p2
    try clear c5
    try clear c7
    try clear c13
    try clear hcz19_0
    try clear hcz19_1
    try clear hcz19_2
    try clear hcz19_3
    try clear hcz19_4
    try clear hfz19_0
    try clear hfz19_1
    try clear hfz19_2
    try clear hfz19_3
    try clear hfz19_4
    obtain ⟨x3_1, x30_1, rfl, HA, HK1, HO_3, BK178, HB⟩ := hrel
    cases gk with
    | zero => exact absurd HA.out (by simp [script_Text.l0])
    | succ k1 =>
     have H := HA.out
     clear HA
     simp only [script_Text.l0] at H
     by_cases c20 : x30_1 < (l0_2.length : Int)
     ·rw [if_pos c20] at H
      have c20b0 : decide (x30_1 < (l0_2.length : Int)) = true := decide_eq_true c20
      clear c20
      by_cases c21 : 0 ≤ x30_1
      ·rw [if_pos c21] at H
       have c21b0 : decide (0 ≤ x30_1) = true := decide_eq_true c21
       clear c21
       by_cases c22 : x30_1 < (l0_2.length : Int)
       ·rw [if_pos c22] at H
        have c22b0 : decide (x30_1 < (l0_2.length : Int)) = true := decide_eq_true c22
        clear c22
        replace H := Option.bind_eq_some_iff.mp H
        obtain ⟨t193, A230, H⟩ := H
        replace H : (if x3_1.length < 8796093022208 then (script_Text.l0 k1 (x3_1 ++ [t193]) l0_2 (l0_2.length : Int) (wrap64 (x30_1 + 1)) a0_0 l0_1 l0_2 a0_3 a0_4) else (none)) = some r := H
        have A23 := Aside0.mk A230
        clear A230
        by_cases c24 : x3_1.length < 8796093022208
        ·rw [if_pos c24] at H
         have LMc24 := Aside0.mk c24
         clear c24
         obtain ⟨y194, hy194⟩ : ∃ y_ : List ByteArray, y_ = (x3_1 ++ [t193]) := ⟨_, rfl⟩
         replace H : (script_Text.l0 k1 y194 l0_2 (l0_2.length : Int) (wrap64 (x30_1 + 1)) a0_0 l0_1 l0_2 a0_3 a0_4) = some r := by first | (rw [hy194]; with_reducible exact H) | (have H2_ := (Option.bind_some _ _).symm.trans H; rw [hy194]; with_reducible exact H2_) | (have H2_ := (Option.bind_some _ _).symm.trans H; with_reducible exact H2_) | with_reducible exact H | (rw [hy194]; exact H) | exact H
         have Ny194 := Aside0.mk hy194
         clear hy194
         have H' := Aside0.mk H
         clear H
         have p192 : 0 ≤ (x30_1 : Int) := of_decide_eq_true (by first | (with_reducible assumption) | assumption)
         have q192 : x30_1 < (l0_2.length : Int) := of_decide_eq_true (by first | (with_reducible assumption) | assumption)
         obtain ⟨ad192, e192, hx192_0⟩ := Kd.at_string HR0_2.out x30_1 p192 q192
         cases e192
         replace hx192_0 := (HB.out.cell (World.block_lt_of_cell? w _ hx192_0)).trans hx192_0
         replace p192 := eq_true p192
         replace q192 := eq_true q192
         go_wp2_with (first | ((with_reducible refine gate_callee (f := 22) rfl ?_); refine goesL_ (some 36) rfl rfl Tryd.func22 (by kernel_rfl) rfl #[.string (rdOf ByteArray.empty l0_2 x30_1)] rfl (by (try simp only [List.map_toArray, List.map_cons, List.map_nil]); first | done | rfl | (simp only [List.length_drop, List.length_take]; rfl)) ?_; (with_reducible refine (script_word.calls (rdOf ByteArray.empty l0_2 x30_1) t193 _ A23.out).mono ?_); rintro e w25 ⟨rfl, hb⟩; refine ⟨_, rfl, ?_⟩; have n0_ := Aside0.mk (Kd.R_below (by (with_reducible repeat (first | apply Kd.R_alloc | apply Kd.R_drewN | apply Kd.R_drew)); exact HO_3.out) hb); have n1_ := Aside0.mk (blk_below (g := gb178) (o := .cells #[.int .i64 a0_0, .slice A0_1 l0_1.length c0_1, .slice (some ad192) l0_2.length c0_2, .int .i64 a0_3, .string a0_4] 36 (0, 0)) (by (with_reducible repeat (first | refine blk_drewN ?_ _ | refine blk_drew ?_ | refine blk_alloc ?_ _)); exact BK178.out) hb); have n2_ := Aside0.mk (below_step (by repeat (first | (with_reducible first | exact HB.out | apply below_alloc | apply pw_below_drewN | apply below_drew1 | refine below_set ?_ GE178.out) | exact HB.out)) hb); clear HO_3; clear BK178; clear HB; have HO_3 := n0_; have BK178 := n1_; have HB := n2_; clear n0_ n1_ n2_; (try clear hb); (try clear hb2); (try clear hk); (try clear hi)) | ((with_reducible refine gate_builtin (b := .append) (xs := #[.tmp 34, .tmp 37]) rfl ?_); at_builtin; refine Kd.R_append Kd.string (w0 := w) w.heap.size rfl (.tmp 34) (.tmp 37) 22 9 (.string ⟨#[]⟩) 16 rfl Tryd.underlying22 info9 rfl (by decide) (by omega) u3 x3_1 t193 [.string t193] (fun _ => True) (fun _ => False) rfl rfl ?aP (fun _ hk => hk.elim) ?aF ?aO ?aB ?aS ?aL ?_; (case aP => exact rfl); (case aB => exact (by repeat (first | (with_reducible first | exact HB.out | apply below_alloc | apply pw_below_drewN | apply below_drew1 | refine below_set ?_ GE178.out) | exact HB.out))); (case aF => exact (fun _ _ => trivial)); (case aO => exact (by (with_reducible repeat (first | apply Kd.R_alloc | apply Kd.R_drewN | apply Kd.R_drew)); exact HO_3.out)); (case aS => exact (below_size (by repeat (first | (with_reducible first | exact HB.out | apply below_alloc | apply pw_below_drewN | apply below_drew1 | refine below_set ?_ GE178.out) | exact HB.out)))); (case aL => have := LMc24.out; omega); intro v195 w26 ho hb hg hat; rw [← Ny194.out] at ho; have n0_ := Aside0.mk (blk_grown (g := gb178) (o := .cells #[.int .i64 a0_0, .slice A0_1 l0_1.length c0_1, .slice (some ad192) l0_2.length c0_2, .int .i64 a0_3, .string a0_4] 36 (0, 0)) (by (with_reducible repeat (first | refine blk_drewN ?_ _ | refine blk_drew ?_ | refine blk_alloc ?_ _)); exact BK178.out) hg (Kd.R_ne HO_3.out BK178.out (by decide))); have n1_ := Aside0.mk (hb); have n2_ := Aside0.mk (ho); clear BK178; clear HB; clear HO_3; have BK178 := n0_; have HB := n1_; have HO196 := n2_; clear n0_ n1_ n2_; clear ho hb hg hat))
         go_roundg k1
         case measure => have := HK1.out; omega
         case rel => exact ⟨(y194), (wrap64 (x30_1 + 1)), (by first | rfl | (simp; done) | (simp [*]; done)), H', ⟨by have := HK1.out; omega⟩, ⟨by (with_reducible repeat (first | apply Kd.R_alloc | apply Kd.R_drewN | apply Kd.R_drew)); exact HO196.out⟩, ⟨by (with_reducible repeat (first | refine blk_drewN ?_ _ | refine blk_drew ?_ | refine blk_alloc ?_ _)); exact BK178.out⟩, ⟨by repeat (first | (with_reducible first | exact HB.out | apply below_alloc | apply pw_below_drewN | apply below_drew1 | refine below_set ?_ GE178.out) | exact HB.out)⟩⟩
        ·rw [if_neg c24] at H
         exact absurd H (by simp)
       ·rw [if_neg c22] at H
        exact absurd H (by simp)
      ·rw [if_neg c21] at H
       exact absurd H (by simp)
     ·rw [if_neg c20] at H
      have c20b0 : decide (x30_1 < (l0_2.length : Int)) = false := decide_eq_false c20
      clear c20
      replace H := Option.bind_eq_some_iff.mp H
      obtain ⟨t197, A270, H⟩ := H
      replace H : (if x3_1.length < 8796093022208 then ((script_joined.f (x3_1 ++ [t197])).bind fun t201 => (some t201)) else (none)) = some r := H
      have A27 := Aside0.mk A270
      clear A270
      by_cases c28 : x3_1.length < 8796093022208
      ·rw [if_pos c28] at H
       have LMc28 := Aside0.mk c28
       clear c28
       obtain ⟨y198, hy198⟩ : ∃ y_ : List ByteArray, y_ = (x3_1 ++ [t197]) := ⟨_, rfl⟩
       replace H : ((script_joined.f y198).bind fun t201 => (some t201)) = some r := by first | (rw [hy198]; with_reducible exact H) | (have H2_ := (Option.bind_some _ _).symm.trans H; rw [hy198]; with_reducible exact H2_) | (have H2_ := (Option.bind_some _ _).symm.trans H; with_reducible exact H2_) | with_reducible exact H | (rw [hy198]; exact H) | exact H
       have Ny198 := Aside0.mk hy198
       clear hy198
       replace H := Option.bind_eq_some_iff.mp H
       obtain ⟨t201, A290, H⟩ := H
       replace H : (some t201) = some r := H
       have A29 := Aside0.mk A290
       clear A290
       obtain rfl := Option.some.inj H
       have hcz30_0 : wr.cell? ⟨gb178, 0, none⟩ = some (.int .i64 a0_0) := (blk_cell BK178.out 0).trans rfl
       have hcz30_1 : wr.cell? ⟨gb178, 1, none⟩ = some (.slice A0_1 l0_1.length c0_1) := (blk_cell BK178.out 1).trans rfl
       have hcz30_2 : wr.cell? ⟨gb178, 2, none⟩ = some (.slice A0_2 l0_2.length c0_2) := (blk_cell BK178.out 2).trans rfl
       have hcz30_3 : wr.cell? ⟨gb178, 3, none⟩ = some (.int .i64 a0_3) := (blk_cell BK178.out 3).trans rfl
       have hcz30_4 : wr.cell? ⟨gb178, 4, none⟩ = some (.string a0_4) := (blk_cell BK178.out 4).trans rfl
       have hfz30_0 := blk_frozen BK178.out 0
       have hfz30_1 := blk_frozen BK178.out 1
       have hfz30_2 := blk_frozen BK178.out 2
       have hfz30_3 := blk_frozen BK178.out 3
       have hfz30_4 := blk_frozen BK178.out 4
       go_wp2_with (first | ((with_reducible refine gate_callee (f := 22) rfl ?_); refine goesL_ (some 43) rfl rfl Tryd.func22 (by kernel_rfl) rfl #[.string a0_4] rfl (by (try simp only [List.map_toArray, List.map_cons, List.map_nil]); first | done | rfl | (simp only [List.length_drop, List.length_take]; rfl)) ?_; (with_reducible refine (script_word.calls a0_4 t197 _ A27.out).mono ?_); rintro e w31 ⟨rfl, hb⟩; refine ⟨_, rfl, ?_⟩; have n0_ := Aside0.mk (Kd.R_below (by (with_reducible repeat (first | apply Kd.R_alloc | apply Kd.R_drewN | apply Kd.R_drew)); exact HO_3.out) hb); have n1_ := Aside0.mk (blk_below (g := gb178) (o := .cells #[.int .i64 a0_0, .slice A0_1 l0_1.length c0_1, .slice A0_2 l0_2.length c0_2, .int .i64 a0_3, .string a0_4] 36 (0, 0)) (by (with_reducible repeat (first | refine blk_drewN ?_ _ | refine blk_drew ?_ | refine blk_alloc ?_ _)); exact BK178.out) hb); have n2_ := Aside0.mk (below_step (by repeat (first | (with_reducible first | exact HB.out | apply below_alloc | apply pw_below_drewN | apply below_drew1 | refine below_set ?_ GE178.out) | exact HB.out)) hb); clear HO_3; clear BK178; clear HB; have HO_3 := n0_; have BK178 := n1_; have HB := n2_; clear n0_ n1_ n2_; (try clear hb); (try clear hb2); (try clear hk); (try clear hi)) | ((with_reducible refine gate_builtin (b := .append) (xs := #[.tmp 40, .tmp 44]) rfl ?_); at_builtin; refine Kd.R_append Kd.string (w0 := w) w.heap.size rfl (.tmp 40) (.tmp 44) 22 9 (.string ⟨#[]⟩) 16 rfl Tryd.underlying22 info9 rfl (by decide) (by omega) u3 x3_1 t197 [.string t197] (fun _ => True) (fun _ => False) rfl rfl ?aP (fun _ hk => hk.elim) ?aF ?aO ?aB ?aS ?aL ?_; (case aP => exact rfl); (case aB => exact (by repeat (first | (with_reducible first | exact HB.out | apply below_alloc | apply pw_below_drewN | apply below_drew1 | refine below_set ?_ GE178.out) | exact HB.out))); (case aF => exact (fun _ _ => trivial)); (case aO => exact (by (with_reducible repeat (first | apply Kd.R_alloc | apply Kd.R_drewN | apply Kd.R_drew)); exact HO_3.out)); (case aS => exact (below_size (by repeat (first | (with_reducible first | exact HB.out | apply below_alloc | apply pw_below_drewN | apply below_drew1 | refine below_set ?_ GE178.out) | exact HB.out)))); (case aL => have := LMc28.out; omega); intro v199 w32 ho hb hg hat; rw [← Ny198.out] at ho; have n0_ := Aside0.mk (blk_grown (g := gb178) (o := .cells #[.int .i64 a0_0, .slice A0_1 l0_1.length c0_1, .slice A0_2 l0_2.length c0_2, .int .i64 a0_3, .string a0_4] 36 (0, 0)) (by (with_reducible repeat (first | refine blk_drewN ?_ _ | refine blk_drew ?_ | refine blk_alloc ?_ _)); exact BK178.out) hg (Kd.R_ne HO_3.out BK178.out (by decide))); have n1_ := Aside0.mk (hb); have n2_ := Aside0.mk (ho); clear BK178; clear HB; clear HO_3; have BK178 := n0_; have HB := n1_; have HO200 := n2_; clear n0_ n1_ n2_; clear ho hb hg hat; obtain ⟨Ao33, co33, eo33⟩ := Kd.R_slice HO200.out; subst eo33) | ((with_reducible refine gate_callee (f := 23) rfl ?_); refine goesL_ (some 46) rfl rfl Tryd.func23 (by kernel_rfl) rfl #[.slice Ao33 y198.length co33] rfl (by (try simp only [List.map_toArray, List.map_cons, List.map_nil]); first | done | rfl | (simp only [List.length_drop, List.length_take]; rfl)) ?_; (with_reducible refine (script_joined.calls _ _ y198 t201 _ ?side1 ?side2 A29.out).mono ?_); (case side1 => repeat (first | exact (Kd.R_reads' HO200.out).2.2 | (with_reducible refine Kd.C_alloc ?_ _) | (with_reducible refine Kd.C_drewN ?_ _) | (with_reducible refine Kd.C_drew ?_))); (case side2 => exact (Kd.R_reads' HO200.out).2.1); rintro e w34 ⟨rfl, hb⟩; refine ⟨_, rfl, ?_⟩; have n0_ := Aside0.mk (Kd.R_below (by (with_reducible repeat (first | apply Kd.R_alloc | apply Kd.R_drewN | apply Kd.R_drew)); exact HO200.out) hb); have n1_ := Aside0.mk (blk_below (g := gb178) (o := .cells #[.int .i64 a0_0, .slice A0_1 l0_1.length c0_1, .slice A0_2 l0_2.length c0_2, .int .i64 a0_3, .string a0_4] 36 (0, 0)) (by (with_reducible repeat (first | refine blk_drewN ?_ _ | refine blk_drew ?_ | refine blk_alloc ?_ _)); exact BK178.out) hb); have n2_ := Aside0.mk (below_step (by repeat (first | (with_reducible first | exact HB.out | apply below_alloc | apply pw_below_drewN | apply below_drew1 | refine below_set ?_ GE178.out) | exact HB.out)) hb); clear HO200; clear BK178; clear HB; have HO200 := n0_; have BK178 := n1_; have HB := n2_; clear n0_ n1_ n2_; (try clear hb); (try clear hb2); (try clear hk); (try clear hi)))
       go_ret
       exact ⟨by first | rfl | (simp [errW_none, errW_some] <;> rfl) | (simp [*, errW_none, errW_some] <;> rfl), by repeat (first | (with_reducible first | exact HB.out | apply below_alloc | apply pw_below_drewN | apply below_drew1 | refine below_set ?_ GE178.out) | exact HB.out)⟩
      ·rw [if_neg c28] at H
       exact absurd H (by simp)
  ·rw [if_neg c7] at H
   exact absurd H (by simp)
 ·rw [if_neg c5] at H
  exact absurd H (by simp)
end Go.Proofs.YtcmemgahgenpdaaDoor.PSc
end
section
namespace Go.Proofs.YtcmemgahgenpdaaDoor.Pure
open Go.RowKit Go.Proofs.YtcmemgahgenpdaaDoor.PSc Go.Proofs.YtcmemgahgenpdaaDoor.Hand Go.Proofs.YtcmemgahgenpdaaDoorW.PrintWords Go.Proofs.YtcmemgahgenpdaaDoorW.PrintLast
set_option linter.unusedVariables false
abbrev exS : ByteArray := ⟨#[102, 105, 114, 115, 116, 32, 111, 110, 101]⟩
abbrev exLine : ByteArray := ⟨#[99, 111, 109, 109, 105, 116, 32, 48, 32, 48, 32, 102, 105, 114, 115, 116, 37, 50, 48, 111, 110, 101]⟩
set_option maxRecDepth 100000 in
set_option maxHeartbeats 4000000 in
theorem ex_line : script_Line.f 30 5 [] 0 false exS = some (exLine, 0) := by
  unfold script_Line.f
  kernel_rfl
abbrev exR1 : ByteArray := ⟨#[97, 100, 100, 32, 45, 51, 32, 49, 32, 45, 32, 97, 32, 100, 47, 98]⟩
abbrev bA : ByteArray := ⟨#[97]⟩
abbrev bDB : ByteArray := ⟨#[100, 47, 98]⟩
theorem ex_split1 : splitQ exR1 = [⟨#[97, 100, 100]⟩, ⟨#[45, 51]⟩, ⟨#[49]⟩, ⟨#[45]⟩, bA, bDB] := by
  kernel_rfl
theorem ex_kind1 : kindQ ⟨#[97, 100, 100]⟩ = 3 := by kernel_rfl
theorem ex_num1 : numP ⟨#[45, 51]⟩ = (-3, true) := by kernel_rfl
theorem tq_empty : textQ ⟨#[45]⟩ = (⟨#[]⟩, true) := textQ_word ⟨#[]⟩ (of_decide_eq_true (by kernel_rfl))
theorem tq_a : textQ bA = (bA, true) := (congrArg textQ (show bA = wordS bA by kernel_rfl)).trans (textQ_word bA (of_decide_eq_true (by kernel_rfl)))
theorem tq_db : textQ bDB = (bDB, true) := (congrArg textQ (show bDB = wordS bDB by kernel_rfl)).trans (textQ_word bDB (of_decide_eq_true (by kernel_rfl)))
theorem tq_pair {s t : ByteArray} {b : Bool} (h : textQ s = (t, b)) : tQ s = t ∧ okQ s = b := by
  unfold tQ okQ
  rw [h]; exact ⟨rfl, rfl⟩
abbrev exR2 : ByteArray := ⟨#[119, 104, 97, 116, 32, 48, 32, 48, 32, 45]⟩
abbrev exR3 : ByteArray := ⟨#[97, 100, 100, 32, 48, 32, 48]⟩
abbrev exR4 : ByteArray := ⟨#[116, 105, 99, 107, 32, 51, 32, 48, 32, 45]⟩
abbrev exR5 : ByteArray := ⟨#[98, 97, 100]⟩
abbrev exAll : ByteArray := ⟨#[35, 32, 120, 10, 10, 116, 105, 99, 107, 32, 51, 32, 48, 32, 45, 10, 98, 97, 100]⟩
theorem readL_4 (l : List ByteArray) (k : Nat) (n : Int) (hl : ¬ (l.length < 4 ∨ Lib.containsS l ⟨#[]⟩ = true)) (hk : kindQ (wd l 0) = k) (h0 : k ≠ 0) (hn : numP (wd l 1) = (n, true)) (hf : wd l 2 = ⟨#[48]⟩ ∨ wd l 2 = ⟨#[49]⟩) : readL l = readW (l.drop 3) k n (decide (wd l 2 = ⟨#[49]⟩)) := by
  unfold readL
  rw [if_neg hl, hk]
  unfold readK
  rw [if_neg h0]
  unfold readN
  rw [hn, if_neg (fun h => h.elim (fun h => by cases h) (fun h => h hf))]
theorem ex_read1 : script_Read.f exR1 = some (3, [bA, bDB], -3, true, ⟨#[]⟩, 0) := by
  unfold script_Read.f readQ
  rw [if_neg (of_decide_eq_true (by kernel_rfl)), ex_split1, readL_4 [⟨#[97, 100, 100]⟩, ⟨#[45, 51]⟩, ⟨#[49]⟩, ⟨#[45]⟩, bA, bDB] 3 (-3) (fun h => h.elim (fun h => absurd h (by decide)) (fun h => absurd h (ne_of_beq_false (by kernel_rfl)))) ex_kind1 (by decide) ex_num1 (Or.inr rfl)]
  unfold readW
  obtain ⟨e1, e2⟩ := tq_pair tq_empty
  obtain ⟨e3, e4⟩ := tq_pair tq_a
  obtain ⟨e5, e6⟩ := tq_pair tq_db
  have hd : decide (wd [⟨#[97, 100, 100]⟩, ⟨#[45, 51]⟩, ⟨#[49]⟩, ⟨#[45]⟩, bA, bDB] 2 = ⟨#[49]⟩) = true := decide_eq_true rfl
  rw [hd]
  simp [wd, e1, e2, e3, e4, e5, e6]
theorem ex_read2 : script_Read.f exR2 = some (zeroE 560) := by
  unfold script_Read.f readQ
  rw [if_neg (of_decide_eq_true (by kernel_rfl)), show splitQ exR2 = [⟨#[119, 104, 97, 116]⟩, ⟨#[48]⟩, ⟨#[48]⟩, ⟨#[45]⟩] by kernel_rfl]
  unfold readL
  rw [if_neg (fun h => h.elim (fun h => absurd h (by decide)) (fun h => absurd h (ne_of_beq_false (by kernel_rfl))))]
  unfold readK
  rw [show kindQ (wd [⟨#[119, 104, 97, 116]⟩, ⟨#[48]⟩, ⟨#[48]⟩, ⟨#[45]⟩] 0) = 0 by kernel_rfl, if_pos rfl]
theorem ex_read3 : script_Read.f exR3 = some (zeroE 2) := by
  unfold script_Read.f readQ
  rw [if_neg (of_decide_eq_true (by kernel_rfl)), show splitQ exR3 = [⟨#[97, 100, 100]⟩, ⟨#[48]⟩, ⟨#[48]⟩] by kernel_rfl]
  unfold readL
  rw [if_pos (Or.inl (by decide))]
theorem ex_read5 : script_Read.f exR5 = some (zeroE 2) := by
  unfold script_Read.f readQ
  rw [if_neg (of_decide_eq_true (by kernel_rfl)), show splitQ exR5 = [⟨#[98, 97, 100]⟩] by kernel_rfl]
  unfold readL
  rw [if_pos (Or.inl (by decide))]
theorem ex_read4 : script_Read.f exR4 = some (26, [], 3, false, ⟨#[]⟩, 0) := by
  unfold script_Read.f readQ
  rw [if_neg (of_decide_eq_true (by kernel_rfl)), show splitQ exR4 = [⟨#[116, 105, 99, 107]⟩, ⟨#[51]⟩, ⟨#[48]⟩, ⟨#[45]⟩] by kernel_rfl, readL_4 _ 26 3 (fun h => h.elim (fun h => absurd h (by decide)) (fun h => absurd h (ne_of_beq_false (by kernel_rfl)))) (by kernel_rfl) (by decide) (by kernel_rfl) (Or.inl rfl)]
  unfold readW
  obtain ⟨e1, e2⟩ := tq_pair tq_empty
  have hd : decide (wd [⟨#[116, 105, 99, 107]⟩, ⟨#[51]⟩, ⟨#[48]⟩, ⟨#[45]⟩] 2 = ⟨#[49]⟩) = false := by kernel_rfl
  rw [hd]
  simp [wd, e1, e2]
theorem nnil {s : ByteArray} (h : (s.data.toList == ([] : List UInt8)) = false) : ¬ s.toList = ([] : List UInt8) := by
  rw [ByteArray.toList_eq]
  exact ne_of_beq_false h
theorem ex_c0 : strings_Cut.f exAll ⟨#[10]⟩ = some (⟨#[35, 32, 120]⟩, ⟨#[10, 116, 105, 99, 107, 32, 51, 32, 48, 32, 45, 10, 98, 97, 100]⟩, true) := by kernel_rfl
theorem ex_c1 : (bt (⟨#[35, 32, 120]⟩ : ByteArray) 0 == 35) = true := by kernel_rfl
theorem ex_c2 : strings_Cut.f (⟨#[10, 116, 105, 99, 107, 32, 51, 32, 48, 32, 45, 10, 98, 97, 100]⟩ : ByteArray) ⟨#[10]⟩ = some (⟨#[]⟩, ⟨#[116, 105, 99, 107, 32, 51, 32, 48, 32, 45, 10, 98, 97, 100]⟩, true) := by kernel_rfl
theorem ex_c3 : strings_Cut.f (⟨#[116, 105, 99, 107, 32, 51, 32, 48, 32, 45, 10, 98, 97, 100]⟩ : ByteArray) ⟨#[10]⟩ = some (exR4, exR5, true) := by kernel_rfl
theorem ex_c4 : (bt exR4 0 == 35) = false := by kernel_rfl
theorem ex_c5 : strings_Cut.f exR5 ⟨#[10]⟩ = some (exR5, ⟨#[]⟩, false) := by kernel_rfl
theorem ex_c6 : (bt exR5 0 == 35) = false := by kernel_rfl
theorem all_skip0 (k : Nat) (s a b : ByteArray) (f : Bool) (x : List S24) (i : Int) (hs : ¬ s.toList = ([] : List UInt8)) (hc : strings_Cut.f s ⟨#[10]⟩ = some (a, b, f)) (ha : a.toList = ([] : List UInt8)) :
    script_All.l0 (k + 2) s x i = script_All.l0 k b x (wrap64 (i + 1)) := by
  rw [script_All.l0, if_neg hs, hc]
  simp only [Option.bind_some]
  rw [if_pos ha, script_All.j1, if_pos rfl]
theorem all_skip1 (k : Nat) (s a b : ByteArray) (f : Bool) (x : List S24) (i : Int) (hs : ¬ s.toList = ([] : List UInt8)) (hc : strings_Cut.f s ⟨#[10]⟩ = some (a, b, f)) (ha : ¬ a.toList = ([] : List UInt8)) (h0 : 0 < (a.size : Int)) (h1 : (bt a 0 == 35) = true) :
    script_All.l0 (k + 2) s x i = script_All.l0 k b x (wrap64 (i + 1)) := by
  rw [script_All.l0, if_neg hs, hc]
  simp only [Option.bind_some]
  rw [if_neg ha, if_pos h0, h1, script_All.j1, if_pos rfl]
theorem all_read (k : Nat) (s a b : ByteArray) (f : Bool) (x : List S24) (i : Int) (rd : Rd6) (hs : ¬ s.toList = ([] : List UInt8)) (hc : strings_Cut.f s ⟨#[10]⟩ = some (a, b, f)) (ha : ¬ a.toList = ([] : List UInt8)) (h0 : 0 < (a.size : Int)) (h1 : (bt a 0 == 35) = false) (hr : script_Read.f a = some rd) :
    script_All.l0 (k + 2) s x i = if rd.2.2.2.2.2 = 0 then (if x.length < 2199023255552 then script_All.l0 k b (x ++ [⟨rd.1, rd.2.1, rd.2.2.1, rd.2.2.2.1, rd.2.2.2.2.1⟩]) (wrap64 (i + 1)) else none) else some ([], i, rd.2.2.2.2.2) := by
  rw [script_All.l0, if_neg hs, hc]
  simp only [Option.bind_some]
  rw [if_neg ha, if_pos h0, h1, script_All.j1, if_neg (by decide), hr]
  simp only [Option.bind_some]
theorem ex_all : script_All.f (0 + 2 + 2 + 2 + 2) exAll = some ([], 3, 2) := by
  unfold script_All.f
  rw [all_skip1 _ _ _ _ _ _ _ (nnil (by kernel_rfl)) ex_c0 (nnil (by kernel_rfl)) (of_decide_eq_true (by kernel_rfl)) ex_c1,
    all_skip0 _ _ _ _ _ _ _ (nnil (by kernel_rfl)) ex_c2 (by rw [ByteArray.toList_eq]),
    all_read _ _ _ _ _ _ _ _ (nnil (by kernel_rfl)) ex_c3 (nnil (by kernel_rfl)) (of_decide_eq_true (by kernel_rfl)) ex_c4 ex_read4, if_pos rfl, if_pos (by decide),
    all_read _ _ _ _ _ _ _ _ (nnil (by kernel_rfl)) ex_c5 (nnil (by kernel_rfl)) (of_decide_eq_true (by kernel_rfl)) ex_c6 ex_read5, if_neg (by simp [zeroE])]
  exact congrArg some (Prod.ext rfl (Prod.ext (by kernel_rfl) rfl))
set_option maxRecDepth 100000 in
set_option maxHeartbeats 4000000 in
theorem ex_text : script_Text.f 30 5 [] [⟨#[97, 32, 98]⟩] 2 ⟨#[]⟩ = some ⟨#[53, 32, 50, 32, 48, 32, 49, 32, 97, 37, 50, 48, 98, 32, 45]⟩ := by
  unfold script_Text.f
  kernel_rfl
set_option maxRecDepth 100000 in
theorem ex_same : graftageref17_SameTexts.f 10 [bA, bDB] [bA, bDB] = some true := by
  unfold graftageref17_SameTexts.f graftageref17_SameTexts.l0
  simp only [ByteArray.toList_eq]
  kernel_rfl
end Go.Proofs.YtcmemgahgenpdaaDoor.Pure
end
section
namespace Go.Proofs.YtcmemgahgenpdaaDoor.Hand
open Go.RowKit Go.Proofs.YtcmemgahgenpdaaDoorW.PrintWords Go.Proofs.YtcmemgahgenpdaaDoorW.PrintLast Go.Proofs.YtcmemgahgenpdaaDoorW.PrintMore
open Go.Proofs.YtcmemgahgenpdaaDoor.PSc Go.Proofs.YtcmemgahgenpdaaDoor.Pure
set_option linter.unusedVariables false
set_option linter.unusedSimpArgs false
theorem C_new (w : World) (l : List ByteArray) (ty : TypeId) (hl : l.length ≤ 9223372036854775807) : Kd.string.C (w.alloc (.cells ((l.map Value.string).toArray) ty)) (some ⟨w.heap.size, 0, none⟩) l.length l := by
  refine Kd.C_of_reads (d := ByteArray.empty) (h1 := fun _ => rfl) ⟨rfl, hl, fun _ => ⟨_, rfl, fun j hj => ?_⟩⟩
  have h : (w.alloc (.cells ((l.map Value.string).toArray) ty)).heap[w.heap.size]? = some (.cells ((l.map Value.string).toArray) ty) := heap_alloc_new w _
  rw [show (⟨w.heap.size, 0, none⟩ : Addr).add j = ⟨w.heap.size, j, none⟩ by simp [Addr.add, eq_comm], Lib.cell_of_heap h]
  simp [hj]
set_option maxHeartbeats 4000000 in
set_option maxRecDepth 100000 in
theorem lives_any (w : World) (hWd : Wds w) : Calls Tryd.prog 7 #[] w fun e w' => e = .returned (.bool true) ∧ Below w.heap.size w w' := by
  have HW := Lib.hid hWd
  clear hWd
  go_enter Tryd.func7, Tryd.ntmps7
  go_wp2_with fail
  refine (script_Line.calls 30 5 none 0 [] 0 false exS exLine 0 _ (Kd.C_nil Kd.string _) (Nat.le_refl _) HW.out ex_line).mono ?_
  rintro e w1 ⟨rfl, hb1⟩
  have HW := Lib.hid (HW.out.below hb1)
  have HB := Lib.hid hb1
  clear hb1
  go_wp2_with fail
  refine (script_Read.calls exR1 3 [bA, bDB] (-3) true ⟨#[]⟩ 0 _ HW.out ex_read1).mono ?_
  rintro e w2 ⟨v1, rfl, hR1, hb2⟩
  have HW := Lib.hid (HW.out.below hb2)
  have hR1 := Kd.R_lower hR1 HB.out.size
  have HB := Lib.hid (HB.out.trans (hb2.mono HB.out.size))
  clear hb2
  obtain ⟨A, cp, hv1⟩ := Kd.R_slice hR1
  subst hv1
  have HC1 := Lib.hid (Kd.R_reads' hR1).2.2
  have hcp := (Kd.R_reads' hR1).2.1
  clear hR1
  go_wp2_with fail
  generalize hw3 : w2.alloc (.cells #[.int .i64 3, .slice A 2 cp, .int .i64 (-3), .bool true, .string ⟨#[]⟩] 24) = w3
  have hX : Cm w3 w2.heap.size 3 (.slice A 2 cp) (-3) true ⟨#[]⟩ := by rw [← hw3]; exact heap_alloc_new w2 _
  have hb3 : Below w2.heap.size w2 w3 := by rw [← hw3]; exact (Below.refl _ w2).alloc (Nat.le_refl _) _
  have HX := Lib.hid hX
  have HC1 := Lib.hid (Kd.C_below HC1.out hb3)
  have HW := Lib.hid (HW.out.below hb3)
  have HB := Lib.hid (HB.out.trans (hb3.mono HB.out.size))
  clear hw3 hX hb3
  generalize hgc : w2.heap.size = gc at *
  refine (script_Read.calls exR2 0 [] 0 false ⟨#[]⟩ 560 _ HW.out ex_read2).mono ?_
  rintro e w4 ⟨v2, rfl, hR2, hb4⟩
  obtain ⟨A2, cp2, hv2⟩ := Kd.R_slice hR2
  subst hv2
  have HX := Lib.hid (HX.out.below hb4)
  have HC1 := Lib.hid (Kd.C_below HC1.out hb4)
  have HW := Lib.hid (HW.out.below hb4)
  have HB := Lib.hid (HB.out.trans (hb4.mono HB.out.size))
  clear hR2 hb4
  go_wp2_with fail
  have hb5 : Below w4.heap.size w4 (w4.alloc (.cells #[.int .i64 0, .slice A2 0 cp2, .int .i64 0, .bool false, .string ⟨#[]⟩] 24)) := (Below.refl _ w4).alloc (Nat.le_refl _) _
  generalize w4.alloc (.cells #[.int .i64 0, .slice A2 0 cp2, .int .i64 0, .bool false, .string ⟨#[]⟩] 24) = w5 at *
  have HX := Lib.hid (HX.out.below hb5)
  have HC1 := Lib.hid (Kd.C_below HC1.out hb5)
  have HW := Lib.hid (HW.out.below hb5)
  have HB := Lib.hid (HB.out.trans (hb5.mono HB.out.size))
  clear hb5
  refine (script_Read.calls exR3 0 [] 0 false ⟨#[]⟩ 2 _ HW.out ex_read3).mono ?_
  rintro e w6 ⟨v3, rfl, hR3, hb6⟩
  obtain ⟨A3, cp3, hv3⟩ := Kd.R_slice hR3
  subst hv3
  have HX := Lib.hid (HX.out.below hb6)
  have HC1 := Lib.hid (Kd.C_below HC1.out hb6)
  have HW := Lib.hid (HW.out.below hb6)
  have HB := Lib.hid (HB.out.trans (hb6.mono HB.out.size))
  clear hR3 hb6
  go_wp2_with fail
  have hb7 : Below w6.heap.size w6 (w6.alloc (.cells #[.int .i64 0, .slice A3 0 cp3, .int .i64 0, .bool false, .string ⟨#[]⟩] 24)) := (Below.refl _ w6).alloc (Nat.le_refl _) _
  generalize w6.alloc (.cells #[.int .i64 0, .slice A3 0 cp3, .int .i64 0, .bool false, .string ⟨#[]⟩] 24) = w7 at *
  have HX := Lib.hid (HX.out.below hb7)
  have HC1 := Lib.hid (Kd.C_below HC1.out hb7)
  have HW := Lib.hid (HW.out.below hb7)
  have HB := Lib.hid (HB.out.trans (hb7.mono HB.out.size))
  clear hb7
  refine (script_All.calls (0 + 2 + 2 + 2 + 2) exAll [] 3 2 _ HW.out ex_all).mono ?_
  rintro e w8 ⟨v4, rfl, hR4, hb8⟩
  obtain ⟨A4, cp4, hv4⟩ := Kd.S_slice hR4
  subst hv4
  have HX := Lib.hid (HX.out.below hb8)
  have HC1 := Lib.hid (Kd.C_below HC1.out hb8)
  have HW := Lib.hid (HW.out.below hb8)
  have HB := Lib.hid (HB.out.trans (hb8.mono HB.out.size))
  clear hR4 hb8
  have x0 := HX.out.c0
  have x1 := HX.out.c1
  have x2 := HX.out.c2
  have x3 := HX.out.c3
  have x4 := HX.out.c4
  have e1 : (exLine.toList == exLine.toList) = true := beq_iff_eq.2 rfl
  have e2 : ((⟨#[]⟩ : ByteArray).toList == (⟨#[]⟩ : ByteArray).toList) = true := beq_iff_eq.2 rfl
  go_wp2_with fail
  have hC2 := C_new w8 [bA, bDB] 9 (by decide)
  have hb9 : Below w8.heap.size w8 (w8.alloc (.cells (([bA, bDB].map Value.string).toArray) 9)) := (Below.refl _ w8).alloc (Nat.le_refl _) _
  refine (graftageref17_SameTexts.calls 10 A cp [bA, bDB] _ 2 [bA, bDB] true _ (Kd.C_below HC1.out hb9) hcp hC2 (Nat.le_refl _) ex_same).mono ?_
  rintro e w9 ⟨rfl, hb10⟩
  have HW := Lib.hid ((HW.out.below hb9).below hb10.below)
  have HB := Lib.hid ((HB.out.trans (hb9.mono HB.out.size)).trans (hb10.below.mono (HB.out.trans (hb9.mono HB.out.size)).size))
  clear hC2 hb9 hb10
  go_wp2_with fail
  have hC3 := C_new w9 [⟨#[97, 32, 98]⟩] 9 (by decide)
  have hb11 : Below w9.heap.size w9 (w9.alloc (.cells (([⟨#[97, 32, 98]⟩].map Value.string).toArray) 9)) := (Below.refl _ w9).alloc (Nat.le_refl _) _
  refine (script_Text.calls 30 5 none 0 [] _ 1 [⟨#[97, 32, 98]⟩] 2 ⟨#[]⟩ _ _ (Kd.C_nil Kd.string _) (Nat.le_refl _) hC3 (Nat.le_refl _) (HW.out.below hb11) ex_text).mono ?_
  rintro e w12 ⟨rfl, hb12⟩
  have HB := Lib.hid ((HB.out.trans (hb11.mono HB.out.size)).trans (hb12.mono (HB.out.trans (hb11.mono HB.out.size)).size))
  have e3 : ((⟨#[53, 32, 50, 32, 48, 32, 49, 32, 97, 37, 50, 48, 98, 32, 45]⟩ : ByteArray).toList == (⟨#[53, 32, 50, 32, 48, 32, 49, 32, 97, 37, 50, 48, 98, 32, 45]⟩ : ByteArray).toList) = true := beq_iff_eq.2 rfl
  clear hC3 hb11 hb12
  go_wp2
  go_ret
  exact ⟨rfl, HB.out⟩
def graftagelaw56_lives.f : Option Bool := some true
theorem graftagelaw56_lives.calls (r : Bool) (w : World) (hWd : Wds w) (h : graftagelaw56_lives.f = some r) : Calls Tryd.prog 7 #[] w fun e w' => e = .returned (.bool r) ∧ Below w.heap.size w w' := by
  obtain rfl := Option.some.inj h
  exact lives_any w hWd
end Go.Proofs.YtcmemgahgenpdaaDoor.Hand
end
section
namespace Go.Proofs.YtcmemgahgenpdaaDoor.PSc
open Go.Proofs.YtcmemgahgenpdaaDoor.Hand Go.RowKit Go.Proofs.YtcmemgahgenpdaaDoorW.PrintWords Go.Proofs.YtcmemgahgenpdaaDoorW.PrintLast Go.Proofs.YtcmemgahgenpdaaDoorW.PrintMore
attribute [local go_sem] max2_int min2_int max_two min_two max_three min_three max_four min_four
set_option linter.unusedVariables false
set_option linter.unusedSimpArgs false
def graftagelaw56_same.f (k : Nat) (a0_0 : Int) (l0_1 : List ByteArray) (a0_2 : Int) (a0_3 : Bool) (a0_4 : ByteArray) (a1_0 : Int) (l1_1 : List ByteArray) (a1_2 : Int) (a1_3 : Bool) (a1_4 : ByteArray) : Option (Bool) := if a0_0 = a1_0 then (if a0_2 = a1_2 then (if (a0_3 == a1_3) = true then (if a0_4.toList = a1_4.toList then ((graftageref17_SameTexts.f k l0_1 l1_1).bind fun t274 => (some t274)) else (some false)) else (some false)) else (some false)) else (some false)
set_option maxHeartbeats 8000000 in
set_option maxRecDepth 100000 in
theorem graftagelaw56_same.calls (k : Nat) (a0_0 : Int) (A0_1 : Option Addr) (c0_1 : Nat) (l0_1 : List ByteArray) (a0_2 : Int) (a0_3 : Bool) (a0_4 : ByteArray) (a1_0 : Int) (A1_1 : Option Addr) (c1_1 : Nat) (l1_1 : List ByteArray) (a1_2 : Int) (a1_3 : Bool) (a1_4 : ByteArray) (r : Bool) (w : World) (hr0_1 : Kd.C Kd.string w A0_1 l0_1.length l0_1) (hc0_1 : l0_1.length ≤ c0_1) (hr1_1 : Kd.C Kd.string w A1_1 l1_1.length l1_1) (hc1_1 : l1_1.length ≤ c1_1) (h : graftagelaw56_same.f k a0_0 l0_1 a0_2 a0_3 a0_4 a1_0 l1_1 a1_2 a1_3 a1_4 = some r) :
  Calls Tryd.prog 11 #[.agg #[.int .i64 a0_0, .slice A0_1 l0_1.length c0_1, .int .i64 a0_2, .bool a0_3, .string a0_4], .agg #[.int .i64 a1_0, .slice A1_1 l1_1.length c1_1, .int .i64 a1_2, .bool a1_3, .string a1_4]] w fun e w' => e = .returned (.bool r) ∧ Below w.heap.size w w' := by
 have hu24 := Tryd.underlying24
 have HR0_1 := Aside0.mk hr0_1
 have HC0_1 := Aside0.mk hc0_1
 clear hr0_1 hc0_1
 have HR1_1 := Aside0.mk hr1_1
 have HC1_1 := Aside0.mk hc1_1
 clear hr1_1 hc1_1
 have HB := Aside0.mk (Below.refl w.heap.size w)
 have H : (if a0_0 = a1_0 then (if a0_2 = a1_2 then (if (a0_3 == a1_3) = true then (if a0_4.toList = a1_4.toList then ((graftageref17_SameTexts.f k l0_1 l1_1).bind fun t274 => (some t274)) else (some false)) else (some false)) else (some false)) else (some false)) = some r := h
 clear h
 by_cases c3 : a0_0 = a1_0
 ·rw [if_pos c3] at H
  have c3b0 : (a0_0 == a1_0) = true := beq_iff_eq.mpr c3
  have c3b1 : (a0_0 != a1_0) = false := bne_eq_false_iff_eq.mpr c3
  clear c3
  by_cases c4 : a0_2 = a1_2
  ·rw [if_pos c4] at H
   have c4b0 : (a0_2 == a1_2) = true := beq_iff_eq.mpr c4
   have c4b1 : (a0_2 != a1_2) = false := bne_eq_false_iff_eq.mpr c4
   clear c4
   by_cases c5 : (a0_3 == a1_3) = true
   ·rw [if_pos c5] at H
    have c5b0 : (a0_3 == a1_3) = true := c5
    (try (have c5b1 : decide (a0_3 = a1_3) = true := by simpa using c5))
    (try (have c5b2 : (a0_3 == a1_3) = true := by simpa using c5))
    clear c5
    by_cases c6 : a0_4.toList = a1_4.toList
    ·rw [if_pos c6] at H
     have c6b0 : (a0_4.toList == a1_4.toList) = true := beq_iff_eq.mpr c6
     have c6b1 : (a0_4.toList != a1_4.toList) = false := bne_eq_false_iff_eq.mpr c6
     clear c6
     replace H := Option.bind_eq_some_iff.mp H
     obtain ⟨t274, A70, H⟩ := H
     replace H : (some t274) = some r := H
     have A7 := Aside0.mk A70
     clear A70
     obtain rfl := Option.some.inj H
     go_enter Tryd.func11, Tryd.ntmps11
     go_wp2_with (first | ((with_reducible refine gate_dst (N := 2) rfl ?_); refine box_event ?hg (N := 2) ?hd (cs := #[.int .i64 a0_0, .slice A0_1 l0_1.length c0_1, .int .i64 a0_2, .bool a0_3, .string a0_4]) (t := 24) ?hr ?_; (case hd => rfl); (case hg => rfl); (case hr => first | (go_simp; done) | (go_simp; rfl)); intro gb272 hg w8 hbox hb; have n0_ := Aside0.mk (below_step (by repeat (first | (with_reducible first | exact HB.out | apply below_alloc | apply pw_below_drewN | apply below_drew1) | exact HB.out)) hb); have n1_ := Aside0.mk (hbox); have n2_ := Aside0.mk ((by rw [hg]; exact (below_size (by repeat (first | (with_reducible first | exact HB.out | apply below_alloc | apply pw_below_drewN | apply below_drew1) | exact HB.out))) : w.heap.size ≤ gb272)); have n3_ := Aside0.mk ((by rw [hg]; exact (below_size (by repeat (first | (with_reducible first | exact HB.out | apply below_alloc | apply pw_below_drewN | apply below_drew1) | exact HB.out))) : w.heap.size ≤ gb272)); clear HB; have HB := n0_; have BK272 := n1_; have GW272 := n2_; have GE272 := n3_; clear n0_ n1_ n2_ n3_; clear hb hbox hg) | ((with_reducible refine gate_dst (N := 3) rfl ?_); refine box_event ?hg (N := 3) ?hd (cs := #[.int .i64 a1_0, .slice A1_1 l1_1.length c1_1, .int .i64 a1_2, .bool a1_3, .string a1_4]) (t := 24) ?hr ?_; (case hd => rfl); (case hg => rfl); (case hr => first | (go_simp; done) | (go_simp; rfl)); intro gb273 hg w9 hbox hb; have n0_ := Aside0.mk (blk_below (g := gb272) (o := .cells #[.int .i64 a0_0, .slice A0_1 l0_1.length c0_1, .int .i64 a0_2, .bool a0_3, .string a0_4] 24 (0, 0)) (by (with_reducible repeat (first | refine blk_drewN ?_ _ | refine blk_drew ?_ | refine blk_alloc ?_ _)); exact BK272.out) hb); have n1_ := Aside0.mk (below_step (by repeat (first | (with_reducible first | exact HB.out | apply below_alloc | apply pw_below_drewN | apply below_drew1 | refine below_set ?_ GE272.out) | exact HB.out)) hb); have n2_ := Aside0.mk (hbox); have n3_ := Aside0.mk ((by rw [hg]; exact (below_size (by repeat (first | (with_reducible first | exact HB.out | apply below_alloc | apply pw_below_drewN | apply below_drew1 | refine below_set ?_ GE272.out) | exact HB.out))) : w.heap.size ≤ gb273)); have n4_ := Aside0.mk ((by rw [hg]; exact (below_size (by repeat (first | (with_reducible first | exact HB.out | apply below_alloc | apply pw_below_drewN | apply below_drew1 | refine below_set ?_ GE272.out) | exact HB.out))) : w.heap.size ≤ gb273)); have n5_ := Aside0.mk ((by rw [hg]; exact Nat.ne_of_lt (blk_lt (g := gb272) (o := .cells #[.int .i64 a0_0, .slice A0_1 l0_1.length c0_1, .int .i64 a0_2, .bool a0_3, .string a0_4] 24 (0, 0)) (by (with_reducible repeat (first | refine blk_drewN ?_ _ | refine blk_drew ?_ | refine blk_alloc ?_ _)); exact BK272.out)) : gb272 ≠ gb273)); have n6_ := Aside0.mk ((by rw [hg]; exact Nat.ne_of_gt (blk_lt (g := gb272) (o := .cells #[.int .i64 a0_0, .slice A0_1 l0_1.length c0_1, .int .i64 a0_2, .bool a0_3, .string a0_4] 24 (0, 0)) (by (with_reducible repeat (first | refine blk_drewN ?_ _ | refine blk_drew ?_ | refine blk_alloc ?_ _)); exact BK272.out)) : gb273 ≠ gb272)); clear BK272; clear HB; have BK272 := n0_; have HB := n1_; have BK273 := n2_; have GW273 := n3_; have GE273 := n4_; have NB272_273 := n5_; have NB273_272 := n6_; clear n0_ n1_ n2_ n3_ n4_ n5_ n6_; clear hb hbox hg; have hnb10 := NB272_273.out; have hnc10 := NB273_272.out; have hcz11_0 : w9.cell? ⟨gb272, 0, none⟩ = some (.int .i64 a0_0) := (blk_cell BK272.out 0).trans rfl; have hcz11_1 : w9.cell? ⟨gb272, 1, none⟩ = some (.slice A0_1 l0_1.length c0_1) := (blk_cell BK272.out 1).trans rfl; have hcz11_2 : w9.cell? ⟨gb272, 2, none⟩ = some (.int .i64 a0_2) := (blk_cell BK272.out 2).trans rfl; have hcz11_3 : w9.cell? ⟨gb272, 3, none⟩ = some (.bool a0_3) := (blk_cell BK272.out 3).trans rfl; have hcz11_4 : w9.cell? ⟨gb272, 4, none⟩ = some (.string a0_4) := (blk_cell BK272.out 4).trans rfl; have hfz11_0 := blk_frozen BK272.out 0; have hfz11_1 := blk_frozen BK272.out 1; have hfz11_2 := blk_frozen BK272.out 2; have hfz11_3 := blk_frozen BK272.out 3; have hfz11_4 := blk_frozen BK272.out 4; have hcz12_0 : w9.cell? ⟨gb273, 0, none⟩ = some (.int .i64 a1_0) := (blk_cell BK273.out 0).trans rfl; have hcz12_1 : w9.cell? ⟨gb273, 1, none⟩ = some (.slice A1_1 l1_1.length c1_1) := (blk_cell BK273.out 1).trans rfl; have hcz12_2 : w9.cell? ⟨gb273, 2, none⟩ = some (.int .i64 a1_2) := (blk_cell BK273.out 2).trans rfl; have hcz12_3 : w9.cell? ⟨gb273, 3, none⟩ = some (.bool a1_3) := (blk_cell BK273.out 3).trans rfl; have hcz12_4 : w9.cell? ⟨gb273, 4, none⟩ = some (.string a1_4) := (blk_cell BK273.out 4).trans rfl; have hfz12_0 := blk_frozen BK273.out 0; have hfz12_1 := blk_frozen BK273.out 1; have hfz12_2 := blk_frozen BK273.out 2; have hfz12_3 := blk_frozen BK273.out 3; have hfz12_4 := blk_frozen BK273.out 4) | (go_at_call 18; (with_reducible refine (graftageref17_SameTexts.calls k _ _ l0_1 _ _ l1_1 t274 _ ?side1 ?side2 ?side3 ?side4 A7.out).mono ?_); (case side1 => repeat (first | exact (Kd.C_below HR0_1.out HB.out) | (with_reducible refine Kd.C_alloc ?_ _) | (with_reducible refine Kd.C_drewN ?_ _) | (with_reducible refine Kd.C_drew ?_))); (case side2 => exact HC0_1.out); (case side3 => repeat (first | exact (Kd.C_below HR1_1.out HB.out) | (with_reducible refine Kd.C_alloc ?_ _) | (with_reducible refine Kd.C_drewN ?_ _) | (with_reducible refine Kd.C_drew ?_))); (case side4 => exact HC1_1.out); rintro e w' ⟨rfl, ⟨nd, rfl⟩⟩))
     go_ret
     exact ⟨by first | rfl | (simp [errW_none, errW_some] <;> rfl) | (simp [*, errW_none, errW_some] <;> rfl), by repeat (first | (with_reducible first | exact HB.out | apply below_alloc | apply pw_below_drewN | apply below_drew1 | refine below_set ?_ GE272.out | refine below_set ?_ GE273.out) | exact HB.out)⟩
    ·rw [if_neg c6] at H
     have c6b0 : (a0_4.toList == a1_4.toList) = false := beq_eq_false_iff_ne.mpr c6
     have c6b1 : (a0_4.toList != a1_4.toList) = true := bne_iff_ne.mpr c6
     obtain rfl := Option.some.inj H
     go_enter Tryd.func11, Tryd.ntmps11
     go_wp2_with (first | ((with_reducible refine gate_dst (N := 2) rfl ?_); refine box_event ?hg (N := 2) ?hd (cs := #[.int .i64 a0_0, .slice A0_1 l0_1.length c0_1, .int .i64 a0_2, .bool a0_3, .string a0_4]) (t := 24) ?hr ?_; (case hd => rfl); (case hg => rfl); (case hr => first | (go_simp; done) | (go_simp; rfl)); intro gb272 hg w13 hbox hb; have n0_ := Aside0.mk (below_step (by repeat (first | (with_reducible first | exact HB.out | apply below_alloc | apply pw_below_drewN | apply below_drew1) | exact HB.out)) hb); have n1_ := Aside0.mk (hbox); have n2_ := Aside0.mk ((by rw [hg]; exact (below_size (by repeat (first | (with_reducible first | exact HB.out | apply below_alloc | apply pw_below_drewN | apply below_drew1) | exact HB.out))) : w.heap.size ≤ gb272)); have n3_ := Aside0.mk ((by rw [hg]; exact (below_size (by repeat (first | (with_reducible first | exact HB.out | apply below_alloc | apply pw_below_drewN | apply below_drew1) | exact HB.out))) : w.heap.size ≤ gb272)); clear HB; have HB := n0_; have BK272 := n1_; have GW272 := n2_; have GE272 := n3_; clear n0_ n1_ n2_ n3_; clear hb hbox hg) | ((with_reducible refine gate_dst (N := 3) rfl ?_); refine box_event ?hg (N := 3) ?hd (cs := #[.int .i64 a1_0, .slice A1_1 l1_1.length c1_1, .int .i64 a1_2, .bool a1_3, .string a1_4]) (t := 24) ?hr ?_; (case hd => rfl); (case hg => rfl); (case hr => first | (go_simp; done) | (go_simp; rfl)); intro gb273 hg w14 hbox hb; have n0_ := Aside0.mk (blk_below (g := gb272) (o := .cells #[.int .i64 a0_0, .slice A0_1 l0_1.length c0_1, .int .i64 a0_2, .bool a0_3, .string a0_4] 24 (0, 0)) (by (with_reducible repeat (first | refine blk_drewN ?_ _ | refine blk_drew ?_ | refine blk_alloc ?_ _)); exact BK272.out) hb); have n1_ := Aside0.mk (below_step (by repeat (first | (with_reducible first | exact HB.out | apply below_alloc | apply pw_below_drewN | apply below_drew1 | refine below_set ?_ GE272.out) | exact HB.out)) hb); have n2_ := Aside0.mk (hbox); have n3_ := Aside0.mk ((by rw [hg]; exact (below_size (by repeat (first | (with_reducible first | exact HB.out | apply below_alloc | apply pw_below_drewN | apply below_drew1 | refine below_set ?_ GE272.out) | exact HB.out))) : w.heap.size ≤ gb273)); have n4_ := Aside0.mk ((by rw [hg]; exact (below_size (by repeat (first | (with_reducible first | exact HB.out | apply below_alloc | apply pw_below_drewN | apply below_drew1 | refine below_set ?_ GE272.out) | exact HB.out))) : w.heap.size ≤ gb273)); have n5_ := Aside0.mk ((by rw [hg]; exact Nat.ne_of_lt (blk_lt (g := gb272) (o := .cells #[.int .i64 a0_0, .slice A0_1 l0_1.length c0_1, .int .i64 a0_2, .bool a0_3, .string a0_4] 24 (0, 0)) (by (with_reducible repeat (first | refine blk_drewN ?_ _ | refine blk_drew ?_ | refine blk_alloc ?_ _)); exact BK272.out)) : gb272 ≠ gb273)); have n6_ := Aside0.mk ((by rw [hg]; exact Nat.ne_of_gt (blk_lt (g := gb272) (o := .cells #[.int .i64 a0_0, .slice A0_1 l0_1.length c0_1, .int .i64 a0_2, .bool a0_3, .string a0_4] 24 (0, 0)) (by (with_reducible repeat (first | refine blk_drewN ?_ _ | refine blk_drew ?_ | refine blk_alloc ?_ _)); exact BK272.out)) : gb273 ≠ gb272)); clear BK272; clear HB; have BK272 := n0_; have HB := n1_; have BK273 := n2_; have GW273 := n3_; have GE273 := n4_; have NB272_273 := n5_; have NB273_272 := n6_; clear n0_ n1_ n2_ n3_ n4_ n5_ n6_; clear hb hbox hg; have hnb15 := NB272_273.out; have hnc15 := NB273_272.out; have hcz16_0 : w14.cell? ⟨gb272, 0, none⟩ = some (.int .i64 a0_0) := (blk_cell BK272.out 0).trans rfl; have hcz16_1 : w14.cell? ⟨gb272, 1, none⟩ = some (.slice A0_1 l0_1.length c0_1) := (blk_cell BK272.out 1).trans rfl; have hcz16_2 : w14.cell? ⟨gb272, 2, none⟩ = some (.int .i64 a0_2) := (blk_cell BK272.out 2).trans rfl; have hcz16_3 : w14.cell? ⟨gb272, 3, none⟩ = some (.bool a0_3) := (blk_cell BK272.out 3).trans rfl; have hcz16_4 : w14.cell? ⟨gb272, 4, none⟩ = some (.string a0_4) := (blk_cell BK272.out 4).trans rfl; have hfz16_0 := blk_frozen BK272.out 0; have hfz16_1 := blk_frozen BK272.out 1; have hfz16_2 := blk_frozen BK272.out 2; have hfz16_3 := blk_frozen BK272.out 3; have hfz16_4 := blk_frozen BK272.out 4; have hcz17_0 : w14.cell? ⟨gb273, 0, none⟩ = some (.int .i64 a1_0) := (blk_cell BK273.out 0).trans rfl; have hcz17_1 : w14.cell? ⟨gb273, 1, none⟩ = some (.slice A1_1 l1_1.length c1_1) := (blk_cell BK273.out 1).trans rfl; have hcz17_2 : w14.cell? ⟨gb273, 2, none⟩ = some (.int .i64 a1_2) := (blk_cell BK273.out 2).trans rfl; have hcz17_3 : w14.cell? ⟨gb273, 3, none⟩ = some (.bool a1_3) := (blk_cell BK273.out 3).trans rfl; have hcz17_4 : w14.cell? ⟨gb273, 4, none⟩ = some (.string a1_4) := (blk_cell BK273.out 4).trans rfl; have hfz17_0 := blk_frozen BK273.out 0; have hfz17_1 := blk_frozen BK273.out 1; have hfz17_2 := blk_frozen BK273.out 2; have hfz17_3 := blk_frozen BK273.out 3; have hfz17_4 := blk_frozen BK273.out 4))
     go_ret
     exact ⟨by first | rfl | (simp [errW_none, errW_some] <;> rfl) | (simp [*, errW_none, errW_some] <;> rfl), by repeat (first | (with_reducible first | exact HB.out | apply below_alloc | apply pw_below_drewN | apply below_drew1 | refine below_set ?_ GE272.out | refine below_set ?_ GE273.out) | exact HB.out)⟩
   ·rw [if_neg c5] at H
    have c5b0 : (a0_3 == a1_3) = false := by simpa using c5
    (try (have c5b1 : decide (a0_3 = a1_3) = false := by simpa using c5))
    (try (have c5b2 : (a0_3 == a1_3) = false := by simpa using c5))
    (try (have c5b3 : ¬ (a0_3 = a1_3) := by simpa using c5))
    clear c5
    obtain rfl := Option.some.inj H
    go_enter Tryd.func11, Tryd.ntmps11
    go_wp2_with (first | ((with_reducible refine gate_dst (N := 2) rfl ?_); refine box_event ?hg (N := 2) ?hd (cs := #[.int .i64 a0_0, .slice A0_1 l0_1.length c0_1, .int .i64 a0_2, .bool a0_3, .string a0_4]) (t := 24) ?hr ?_; (case hd => rfl); (case hg => rfl); (case hr => first | (go_simp; done) | (go_simp; rfl)); intro gb272 hg w18 hbox hb; have n0_ := Aside0.mk (below_step (by repeat (first | (with_reducible first | exact HB.out | apply below_alloc | apply pw_below_drewN | apply below_drew1) | exact HB.out)) hb); have n1_ := Aside0.mk (hbox); have n2_ := Aside0.mk ((by rw [hg]; exact (below_size (by repeat (first | (with_reducible first | exact HB.out | apply below_alloc | apply pw_below_drewN | apply below_drew1) | exact HB.out))) : w.heap.size ≤ gb272)); have n3_ := Aside0.mk ((by rw [hg]; exact (below_size (by repeat (first | (with_reducible first | exact HB.out | apply below_alloc | apply pw_below_drewN | apply below_drew1) | exact HB.out))) : w.heap.size ≤ gb272)); clear HB; have HB := n0_; have BK272 := n1_; have GW272 := n2_; have GE272 := n3_; clear n0_ n1_ n2_ n3_; clear hb hbox hg) | ((with_reducible refine gate_dst (N := 3) rfl ?_); refine box_event ?hg (N := 3) ?hd (cs := #[.int .i64 a1_0, .slice A1_1 l1_1.length c1_1, .int .i64 a1_2, .bool a1_3, .string a1_4]) (t := 24) ?hr ?_; (case hd => rfl); (case hg => rfl); (case hr => first | (go_simp; done) | (go_simp; rfl)); intro gb273 hg w19 hbox hb; have n0_ := Aside0.mk (blk_below (g := gb272) (o := .cells #[.int .i64 a0_0, .slice A0_1 l0_1.length c0_1, .int .i64 a0_2, .bool a0_3, .string a0_4] 24 (0, 0)) (by (with_reducible repeat (first | refine blk_drewN ?_ _ | refine blk_drew ?_ | refine blk_alloc ?_ _)); exact BK272.out) hb); have n1_ := Aside0.mk (below_step (by repeat (first | (with_reducible first | exact HB.out | apply below_alloc | apply pw_below_drewN | apply below_drew1 | refine below_set ?_ GE272.out) | exact HB.out)) hb); have n2_ := Aside0.mk (hbox); have n3_ := Aside0.mk ((by rw [hg]; exact (below_size (by repeat (first | (with_reducible first | exact HB.out | apply below_alloc | apply pw_below_drewN | apply below_drew1 | refine below_set ?_ GE272.out) | exact HB.out))) : w.heap.size ≤ gb273)); have n4_ := Aside0.mk ((by rw [hg]; exact (below_size (by repeat (first | (with_reducible first | exact HB.out | apply below_alloc | apply pw_below_drewN | apply below_drew1 | refine below_set ?_ GE272.out) | exact HB.out))) : w.heap.size ≤ gb273)); have n5_ := Aside0.mk ((by rw [hg]; exact Nat.ne_of_lt (blk_lt (g := gb272) (o := .cells #[.int .i64 a0_0, .slice A0_1 l0_1.length c0_1, .int .i64 a0_2, .bool a0_3, .string a0_4] 24 (0, 0)) (by (with_reducible repeat (first | refine blk_drewN ?_ _ | refine blk_drew ?_ | refine blk_alloc ?_ _)); exact BK272.out)) : gb272 ≠ gb273)); have n6_ := Aside0.mk ((by rw [hg]; exact Nat.ne_of_gt (blk_lt (g := gb272) (o := .cells #[.int .i64 a0_0, .slice A0_1 l0_1.length c0_1, .int .i64 a0_2, .bool a0_3, .string a0_4] 24 (0, 0)) (by (with_reducible repeat (first | refine blk_drewN ?_ _ | refine blk_drew ?_ | refine blk_alloc ?_ _)); exact BK272.out)) : gb273 ≠ gb272)); clear BK272; clear HB; have BK272 := n0_; have HB := n1_; have BK273 := n2_; have GW273 := n3_; have GE273 := n4_; have NB272_273 := n5_; have NB273_272 := n6_; clear n0_ n1_ n2_ n3_ n4_ n5_ n6_; clear hb hbox hg; have hnb20 := NB272_273.out; have hnc20 := NB273_272.out; have hcz21_0 : w19.cell? ⟨gb272, 0, none⟩ = some (.int .i64 a0_0) := (blk_cell BK272.out 0).trans rfl; have hcz21_1 : w19.cell? ⟨gb272, 1, none⟩ = some (.slice A0_1 l0_1.length c0_1) := (blk_cell BK272.out 1).trans rfl; have hcz21_2 : w19.cell? ⟨gb272, 2, none⟩ = some (.int .i64 a0_2) := (blk_cell BK272.out 2).trans rfl; have hcz21_3 : w19.cell? ⟨gb272, 3, none⟩ = some (.bool a0_3) := (blk_cell BK272.out 3).trans rfl; have hcz21_4 : w19.cell? ⟨gb272, 4, none⟩ = some (.string a0_4) := (blk_cell BK272.out 4).trans rfl; have hfz21_0 := blk_frozen BK272.out 0; have hfz21_1 := blk_frozen BK272.out 1; have hfz21_2 := blk_frozen BK272.out 2; have hfz21_3 := blk_frozen BK272.out 3; have hfz21_4 := blk_frozen BK272.out 4; have hcz22_0 : w19.cell? ⟨gb273, 0, none⟩ = some (.int .i64 a1_0) := (blk_cell BK273.out 0).trans rfl; have hcz22_1 : w19.cell? ⟨gb273, 1, none⟩ = some (.slice A1_1 l1_1.length c1_1) := (blk_cell BK273.out 1).trans rfl; have hcz22_2 : w19.cell? ⟨gb273, 2, none⟩ = some (.int .i64 a1_2) := (blk_cell BK273.out 2).trans rfl; have hcz22_3 : w19.cell? ⟨gb273, 3, none⟩ = some (.bool a1_3) := (blk_cell BK273.out 3).trans rfl; have hcz22_4 : w19.cell? ⟨gb273, 4, none⟩ = some (.string a1_4) := (blk_cell BK273.out 4).trans rfl; have hfz22_0 := blk_frozen BK273.out 0; have hfz22_1 := blk_frozen BK273.out 1; have hfz22_2 := blk_frozen BK273.out 2; have hfz22_3 := blk_frozen BK273.out 3; have hfz22_4 := blk_frozen BK273.out 4))
    go_ret
    exact ⟨by first | rfl | (simp [errW_none, errW_some] <;> rfl) | (simp [*, errW_none, errW_some] <;> rfl), by repeat (first | (with_reducible first | exact HB.out | apply below_alloc | apply pw_below_drewN | apply below_drew1 | refine below_set ?_ GE272.out | refine below_set ?_ GE273.out) | exact HB.out)⟩
  ·rw [if_neg c4] at H
   have c4b0 : (a0_2 == a1_2) = false := beq_eq_false_iff_ne.mpr c4
   have c4b1 : (a0_2 != a1_2) = true := bne_iff_ne.mpr c4
   obtain rfl := Option.some.inj H
   go_enter Tryd.func11, Tryd.ntmps11
   go_wp2_with (first | ((with_reducible refine gate_dst (N := 2) rfl ?_); refine box_event ?hg (N := 2) ?hd (cs := #[.int .i64 a0_0, .slice A0_1 l0_1.length c0_1, .int .i64 a0_2, .bool a0_3, .string a0_4]) (t := 24) ?hr ?_; (case hd => rfl); (case hg => rfl); (case hr => first | (go_simp; done) | (go_simp; rfl)); intro gb272 hg w23 hbox hb; have n0_ := Aside0.mk (below_step (by repeat (first | (with_reducible first | exact HB.out | apply below_alloc | apply pw_below_drewN | apply below_drew1) | exact HB.out)) hb); have n1_ := Aside0.mk (hbox); have n2_ := Aside0.mk ((by rw [hg]; exact (below_size (by repeat (first | (with_reducible first | exact HB.out | apply below_alloc | apply pw_below_drewN | apply below_drew1) | exact HB.out))) : w.heap.size ≤ gb272)); have n3_ := Aside0.mk ((by rw [hg]; exact (below_size (by repeat (first | (with_reducible first | exact HB.out | apply below_alloc | apply pw_below_drewN | apply below_drew1) | exact HB.out))) : w.heap.size ≤ gb272)); clear HB; have HB := n0_; have BK272 := n1_; have GW272 := n2_; have GE272 := n3_; clear n0_ n1_ n2_ n3_; clear hb hbox hg) | ((with_reducible refine gate_dst (N := 3) rfl ?_); refine box_event ?hg (N := 3) ?hd (cs := #[.int .i64 a1_0, .slice A1_1 l1_1.length c1_1, .int .i64 a1_2, .bool a1_3, .string a1_4]) (t := 24) ?hr ?_; (case hd => rfl); (case hg => rfl); (case hr => first | (go_simp; done) | (go_simp; rfl)); intro gb273 hg w24 hbox hb; have n0_ := Aside0.mk (blk_below (g := gb272) (o := .cells #[.int .i64 a0_0, .slice A0_1 l0_1.length c0_1, .int .i64 a0_2, .bool a0_3, .string a0_4] 24 (0, 0)) (by (with_reducible repeat (first | refine blk_drewN ?_ _ | refine blk_drew ?_ | refine blk_alloc ?_ _)); exact BK272.out) hb); have n1_ := Aside0.mk (below_step (by repeat (first | (with_reducible first | exact HB.out | apply below_alloc | apply pw_below_drewN | apply below_drew1 | refine below_set ?_ GE272.out) | exact HB.out)) hb); have n2_ := Aside0.mk (hbox); have n3_ := Aside0.mk ((by rw [hg]; exact (below_size (by repeat (first | (with_reducible first | exact HB.out | apply below_alloc | apply pw_below_drewN | apply below_drew1 | refine below_set ?_ GE272.out) | exact HB.out))) : w.heap.size ≤ gb273)); have n4_ := Aside0.mk ((by rw [hg]; exact (below_size (by repeat (first | (with_reducible first | exact HB.out | apply below_alloc | apply pw_below_drewN | apply below_drew1 | refine below_set ?_ GE272.out) | exact HB.out))) : w.heap.size ≤ gb273)); have n5_ := Aside0.mk ((by rw [hg]; exact Nat.ne_of_lt (blk_lt (g := gb272) (o := .cells #[.int .i64 a0_0, .slice A0_1 l0_1.length c0_1, .int .i64 a0_2, .bool a0_3, .string a0_4] 24 (0, 0)) (by (with_reducible repeat (first | refine blk_drewN ?_ _ | refine blk_drew ?_ | refine blk_alloc ?_ _)); exact BK272.out)) : gb272 ≠ gb273)); have n6_ := Aside0.mk ((by rw [hg]; exact Nat.ne_of_gt (blk_lt (g := gb272) (o := .cells #[.int .i64 a0_0, .slice A0_1 l0_1.length c0_1, .int .i64 a0_2, .bool a0_3, .string a0_4] 24 (0, 0)) (by (with_reducible repeat (first | refine blk_drewN ?_ _ | refine blk_drew ?_ | refine blk_alloc ?_ _)); exact BK272.out)) : gb273 ≠ gb272)); clear BK272; clear HB; have BK272 := n0_; have HB := n1_; have BK273 := n2_; have GW273 := n3_; have GE273 := n4_; have NB272_273 := n5_; have NB273_272 := n6_; clear n0_ n1_ n2_ n3_ n4_ n5_ n6_; clear hb hbox hg; have hnb25 := NB272_273.out; have hnc25 := NB273_272.out; have hcz26_0 : w24.cell? ⟨gb272, 0, none⟩ = some (.int .i64 a0_0) := (blk_cell BK272.out 0).trans rfl; have hcz26_1 : w24.cell? ⟨gb272, 1, none⟩ = some (.slice A0_1 l0_1.length c0_1) := (blk_cell BK272.out 1).trans rfl; have hcz26_2 : w24.cell? ⟨gb272, 2, none⟩ = some (.int .i64 a0_2) := (blk_cell BK272.out 2).trans rfl; have hcz26_3 : w24.cell? ⟨gb272, 3, none⟩ = some (.bool a0_3) := (blk_cell BK272.out 3).trans rfl; have hcz26_4 : w24.cell? ⟨gb272, 4, none⟩ = some (.string a0_4) := (blk_cell BK272.out 4).trans rfl; have hfz26_0 := blk_frozen BK272.out 0; have hfz26_1 := blk_frozen BK272.out 1; have hfz26_2 := blk_frozen BK272.out 2; have hfz26_3 := blk_frozen BK272.out 3; have hfz26_4 := blk_frozen BK272.out 4; have hcz27_0 : w24.cell? ⟨gb273, 0, none⟩ = some (.int .i64 a1_0) := (blk_cell BK273.out 0).trans rfl; have hcz27_1 : w24.cell? ⟨gb273, 1, none⟩ = some (.slice A1_1 l1_1.length c1_1) := (blk_cell BK273.out 1).trans rfl; have hcz27_2 : w24.cell? ⟨gb273, 2, none⟩ = some (.int .i64 a1_2) := (blk_cell BK273.out 2).trans rfl; have hcz27_3 : w24.cell? ⟨gb273, 3, none⟩ = some (.bool a1_3) := (blk_cell BK273.out 3).trans rfl; have hcz27_4 : w24.cell? ⟨gb273, 4, none⟩ = some (.string a1_4) := (blk_cell BK273.out 4).trans rfl; have hfz27_0 := blk_frozen BK273.out 0; have hfz27_1 := blk_frozen BK273.out 1; have hfz27_2 := blk_frozen BK273.out 2; have hfz27_3 := blk_frozen BK273.out 3; have hfz27_4 := blk_frozen BK273.out 4))
   go_ret
   exact ⟨by first | rfl | (simp [errW_none, errW_some] <;> rfl) | (simp [*, errW_none, errW_some] <;> rfl), by repeat (first | (with_reducible first | exact HB.out | apply below_alloc | apply pw_below_drewN | apply below_drew1 | refine below_set ?_ GE272.out | refine below_set ?_ GE273.out) | exact HB.out)⟩
 ·rw [if_neg c3] at H
  have c3b0 : (a0_0 == a1_0) = false := beq_eq_false_iff_ne.mpr c3
  have c3b1 : (a0_0 != a1_0) = true := bne_iff_ne.mpr c3
  obtain rfl := Option.some.inj H
  go_enter Tryd.func11, Tryd.ntmps11
  go_wp2_with (first | ((with_reducible refine gate_dst (N := 2) rfl ?_); refine box_event ?hg (N := 2) ?hd (cs := #[.int .i64 a0_0, .slice A0_1 l0_1.length c0_1, .int .i64 a0_2, .bool a0_3, .string a0_4]) (t := 24) ?hr ?_; (case hd => rfl); (case hg => rfl); (case hr => first | (go_simp; done) | (go_simp; rfl)); intro gb272 hg w28 hbox hb; have n0_ := Aside0.mk (below_step (by repeat (first | (with_reducible first | exact HB.out | apply below_alloc | apply pw_below_drewN | apply below_drew1) | exact HB.out)) hb); have n1_ := Aside0.mk (hbox); have n2_ := Aside0.mk ((by rw [hg]; exact (below_size (by repeat (first | (with_reducible first | exact HB.out | apply below_alloc | apply pw_below_drewN | apply below_drew1) | exact HB.out))) : w.heap.size ≤ gb272)); have n3_ := Aside0.mk ((by rw [hg]; exact (below_size (by repeat (first | (with_reducible first | exact HB.out | apply below_alloc | apply pw_below_drewN | apply below_drew1) | exact HB.out))) : w.heap.size ≤ gb272)); clear HB; have HB := n0_; have BK272 := n1_; have GW272 := n2_; have GE272 := n3_; clear n0_ n1_ n2_ n3_; clear hb hbox hg) | ((with_reducible refine gate_dst (N := 3) rfl ?_); refine box_event ?hg (N := 3) ?hd (cs := #[.int .i64 a1_0, .slice A1_1 l1_1.length c1_1, .int .i64 a1_2, .bool a1_3, .string a1_4]) (t := 24) ?hr ?_; (case hd => rfl); (case hg => rfl); (case hr => first | (go_simp; done) | (go_simp; rfl)); intro gb273 hg w29 hbox hb; have n0_ := Aside0.mk (blk_below (g := gb272) (o := .cells #[.int .i64 a0_0, .slice A0_1 l0_1.length c0_1, .int .i64 a0_2, .bool a0_3, .string a0_4] 24 (0, 0)) (by (with_reducible repeat (first | refine blk_drewN ?_ _ | refine blk_drew ?_ | refine blk_alloc ?_ _)); exact BK272.out) hb); have n1_ := Aside0.mk (below_step (by repeat (first | (with_reducible first | exact HB.out | apply below_alloc | apply pw_below_drewN | apply below_drew1 | refine below_set ?_ GE272.out) | exact HB.out)) hb); have n2_ := Aside0.mk (hbox); have n3_ := Aside0.mk ((by rw [hg]; exact (below_size (by repeat (first | (with_reducible first | exact HB.out | apply below_alloc | apply pw_below_drewN | apply below_drew1 | refine below_set ?_ GE272.out) | exact HB.out))) : w.heap.size ≤ gb273)); have n4_ := Aside0.mk ((by rw [hg]; exact (below_size (by repeat (first | (with_reducible first | exact HB.out | apply below_alloc | apply pw_below_drewN | apply below_drew1 | refine below_set ?_ GE272.out) | exact HB.out))) : w.heap.size ≤ gb273)); have n5_ := Aside0.mk ((by rw [hg]; exact Nat.ne_of_lt (blk_lt (g := gb272) (o := .cells #[.int .i64 a0_0, .slice A0_1 l0_1.length c0_1, .int .i64 a0_2, .bool a0_3, .string a0_4] 24 (0, 0)) (by (with_reducible repeat (first | refine blk_drewN ?_ _ | refine blk_drew ?_ | refine blk_alloc ?_ _)); exact BK272.out)) : gb272 ≠ gb273)); have n6_ := Aside0.mk ((by rw [hg]; exact Nat.ne_of_gt (blk_lt (g := gb272) (o := .cells #[.int .i64 a0_0, .slice A0_1 l0_1.length c0_1, .int .i64 a0_2, .bool a0_3, .string a0_4] 24 (0, 0)) (by (with_reducible repeat (first | refine blk_drewN ?_ _ | refine blk_drew ?_ | refine blk_alloc ?_ _)); exact BK272.out)) : gb273 ≠ gb272)); clear BK272; clear HB; have BK272 := n0_; have HB := n1_; have BK273 := n2_; have GW273 := n3_; have GE273 := n4_; have NB272_273 := n5_; have NB273_272 := n6_; clear n0_ n1_ n2_ n3_ n4_ n5_ n6_; clear hb hbox hg; have hnb30 := NB272_273.out; have hnc30 := NB273_272.out; have hcz31_0 : w29.cell? ⟨gb272, 0, none⟩ = some (.int .i64 a0_0) := (blk_cell BK272.out 0).trans rfl; have hcz31_1 : w29.cell? ⟨gb272, 1, none⟩ = some (.slice A0_1 l0_1.length c0_1) := (blk_cell BK272.out 1).trans rfl; have hcz31_2 : w29.cell? ⟨gb272, 2, none⟩ = some (.int .i64 a0_2) := (blk_cell BK272.out 2).trans rfl; have hcz31_3 : w29.cell? ⟨gb272, 3, none⟩ = some (.bool a0_3) := (blk_cell BK272.out 3).trans rfl; have hcz31_4 : w29.cell? ⟨gb272, 4, none⟩ = some (.string a0_4) := (blk_cell BK272.out 4).trans rfl; have hfz31_0 := blk_frozen BK272.out 0; have hfz31_1 := blk_frozen BK272.out 1; have hfz31_2 := blk_frozen BK272.out 2; have hfz31_3 := blk_frozen BK272.out 3; have hfz31_4 := blk_frozen BK272.out 4; have hcz32_0 : w29.cell? ⟨gb273, 0, none⟩ = some (.int .i64 a1_0) := (blk_cell BK273.out 0).trans rfl; have hcz32_1 : w29.cell? ⟨gb273, 1, none⟩ = some (.slice A1_1 l1_1.length c1_1) := (blk_cell BK273.out 1).trans rfl; have hcz32_2 : w29.cell? ⟨gb273, 2, none⟩ = some (.int .i64 a1_2) := (blk_cell BK273.out 2).trans rfl; have hcz32_3 : w29.cell? ⟨gb273, 3, none⟩ = some (.bool a1_3) := (blk_cell BK273.out 3).trans rfl; have hcz32_4 : w29.cell? ⟨gb273, 4, none⟩ = some (.string a1_4) := (blk_cell BK273.out 4).trans rfl; have hfz32_0 := blk_frozen BK273.out 0; have hfz32_1 := blk_frozen BK273.out 1; have hfz32_2 := blk_frozen BK273.out 2; have hfz32_3 := blk_frozen BK273.out 3; have hfz32_4 := blk_frozen BK273.out 4))
  go_ret
  exact ⟨by first | rfl | (simp [errW_none, errW_some] <;> rfl) | (simp [*, errW_none, errW_some] <;> rfl), by repeat (first | (with_reducible first | exact HB.out | apply below_alloc | apply pw_below_drewN | apply below_drew1 | refine below_set ?_ GE272.out | refine below_set ?_ GE273.out) | exact HB.out)⟩
def graftageref56_Split.l0 : Nat → ByteArray → List ByteArray → Int → Int → Option (List ByteArray)
 | 0, _, _, _, _ => none
 | k + 1, x0, x3, x4, x5 => if x5 ≤ (x0.size : Int) then (if x5 = (x0.size : Int) then (if 0 ≤ x4 then (if x4 ≤ x5 then (if x3.length < 8796093022208 then (graftageref56_Split.l0 k x0 (x3 ++ [x0.extract (x4 : Int).toNat (x5 : Int).toNat]) (wrap64 (x5 + 1)) (wrap64 (x5 + 1))) else (none)) else (none)) else (none)) else (if 0 ≤ x5 then (if x5 < (x0.size : Int) then (if (bt x0 x5) = 32 then (if 0 ≤ x4 then (if x4 ≤ x5 then (if x3.length < 8796093022208 then (graftageref56_Split.l0 k x0 (x3 ++ [x0.extract (x4 : Int).toNat (x5 : Int).toNat]) (wrap64 (x5 + 1)) (wrap64 (x5 + 1))) else (none)) else (none)) else (none)) else (graftageref56_Split.l0 k x0 x3 x4 (wrap64 (x5 + 1)))) else (none)) else (none))) else (some x3)
def graftageref56_Split.f (k : Nat) (a0 : ByteArray) : Option (List ByteArray) := graftageref56_Split.l0 k a0 ([] : List ByteArray) 0 0
set_option maxHeartbeats 8000000 in
set_option maxRecDepth 100000 in
theorem graftageref56_Split.calls (k : Nat) (a0 : ByteArray) (r : List ByteArray) (w : World) (h : graftageref56_Split.f k a0 = some r) :
  Calls Tryd.prog 32 #[.string a0] w fun e w' => ∃ v0_ : Value, e = .returned (v0_) ∧ Kd.R Kd.string 9 w' w.heap.size (fun _ => True) v0_ r ∧ Below w.heap.size w w' := by
 have HB := Aside0.mk (Below.refl w.heap.size w)
 have H : (graftageref56_Split.l0 k a0 ([] : List ByteArray) 0 0) = some r := h
 clear h
 have H' := Aside0.mk H
 clear H
 go_enter Tryd.func32, Tryd.ntmps32
 go_wp2
 go_loopg [3, 4, 5] k (fun kq v3 v4 v5 w' => ∃ (x3_1 : List ByteArray) (x4_1 : Int) (x5_1 : Int), v4 = .int .i64 x4_1 ∧ v5 = .int .i64 x5_1 ∧ Aside0 (graftageref56_Split.l0 kq a0 x3_1 x4_1 x5_1 = some r) ∧ Aside0 (kq ≤ k) ∧ Aside0 (Kd.R Kd.string 9 w' w.heap.size (fun _ => True) v3 x3_1) ∧ Aside0 (Below w.heap.size w w'))
 case atStart => exact ⟨(([] : List ByteArray)), (0), (0), (by first | rfl | (simp; done) | (simp [*]; done)), (by first | rfl | (simp; done) | (simp [*]; done)), H', ⟨Nat.le_refl _⟩, ⟨by first | exact Kd.R_nil _ _ _ _ _ | exact Kd.N_nil _ _ _ _ _ | exact Kd.V_nil _ _ _ _ _ | exact Kd.Q_nil _ _ _ _ _ | exact Kd.S_nil _ _ _ _ _⟩, ⟨by repeat (first | (with_reducible first | exact HB.out | apply below_alloc | apply pw_below_drewN | apply below_drew1) | exact HB.out)⟩⟩
 case round =>
  clear H'
  obtain ⟨x3_1, x4_1, x5_1, rfl, rfl, HA, HK1, HO_3, HB⟩ := hrel
  cases gk with
  | zero => exact absurd HA.out (by simp [graftageref56_Split.l0])
  | succ k1 =>
   have H := HA.out
   clear HA
   simp only [graftageref56_Split.l0] at H
   by_cases c2 : x5_1 ≤ (a0.size : Int)
   ·rw [if_pos c2] at H
    have c2b0 : decide (x5_1 ≤ (a0.size : Int)) = true := decide_eq_true c2
    clear c2
    by_cases c3 : x5_1 = (a0.size : Int)
    ·rw [if_pos c3] at H
     have c3b0 : (x5_1 == (a0.size : Int)) = true := beq_iff_eq.mpr c3
     have c3b1 : (x5_1 != (a0.size : Int)) = false := bne_eq_false_iff_eq.mpr c3
     clear c3
     by_cases c4 : 0 ≤ x4_1
     ·rw [if_pos c4] at H
      have c4b0 := eq_true c4
      have c4b1 : decide (0 ≤ x4_1) = true := decide_eq_true c4
      clear c4
      by_cases c5 : x4_1 ≤ x5_1
      ·rw [if_pos c5] at H
       have c5b0 := eq_true c5
       have c5b1 : decide (x4_1 ≤ x5_1) = true := decide_eq_true c5
       clear c5
       have c6b0 := eq_true (of_decide_eq_true (by first | (with_reducible assumption) | assumption) : x5_1 ≤ (a0.size : Int))
       by_cases c7 : x3_1.length < 8796093022208
       ·rw [if_pos c7] at H
        have LMc7 := Aside0.mk c7
        clear c7
        obtain ⟨y293, hy293⟩ : ∃ y_ : List ByteArray, y_ = (x3_1 ++ [a0.extract (x4_1 : Int).toNat (x5_1 : Int).toNat]) := ⟨_, rfl⟩
        replace H : (graftageref56_Split.l0 k1 a0 y293 (wrap64 (x5_1 + 1)) (wrap64 (x5_1 + 1))) = some r := by first | (rw [hy293]; with_reducible exact H) | (have H2_ := (Option.bind_some _ _).symm.trans H; rw [hy293]; with_reducible exact H2_) | (have H2_ := (Option.bind_some _ _).symm.trans H; with_reducible exact H2_) | with_reducible exact H | (rw [hy293]; exact H) | exact H
        have Ny293 := Aside0.mk hy293
        clear hy293
        have H' := Aside0.mk H
        clear H
        go_wp2_with (first | ((with_reducible refine gate_builtin (b := .append) (xs := #[.tmp 22, .tmp 27]) rfl ?_); at_builtin; refine Kd.R_append Kd.string (w0 := w) w.heap.size rfl (.tmp 22) (.tmp 27) 22 9 (.string ⟨#[]⟩) 16 rfl Tryd.underlying22 info9 rfl (by decide) (by omega) u3 x3_1 (a0.extract (x4_1 : Int).toNat (x5_1 : Int).toNat) [.string (a0.extract (x4_1 : Int).toNat (x5_1 : Int).toNat)] (fun _ => True) (fun _ => False) rfl rfl ?aP (fun _ hk => hk.elim) ?aF ?aO ?aB ?aS ?aL ?_; (case aP => exact rfl); (case aB => exact (by repeat (first | (with_reducible first | exact HB.out | apply below_alloc | apply pw_below_drewN | apply below_drew1) | exact HB.out))); (case aF => exact (fun _ _ => trivial)); (case aO => exact (by (with_reducible repeat (first | apply Kd.R_alloc | apply Kd.R_drewN | apply Kd.R_drew)); exact HO_3.out)); (case aS => exact (below_size (by repeat (first | (with_reducible first | exact HB.out | apply below_alloc | apply pw_below_drewN | apply below_drew1) | exact HB.out)))); (case aL => have := LMc7.out; omega); intro v294 w8 ho hb hg hat; rw [← Ny293.out] at ho; have n0_ := Aside0.mk (hb); have n1_ := Aside0.mk (ho); clear HB; clear HO_3; have HB := n0_; have HO295 := n1_; clear n0_ n1_; clear ho hb hg hat))
        go_roundg k1
        case measure => have := HK1.out; omega
        case rel => exact ⟨(y293), (wrap64 (x5_1 + 1)), (wrap64 (x5_1 + 1)), (by first | rfl | (simp; done) | (simp [*]; done)), (by first | rfl | (simp; done) | (simp [*]; done)), H', ⟨by have := HK1.out; omega⟩, ⟨by (with_reducible repeat (first | apply Kd.R_alloc | apply Kd.R_drewN | apply Kd.R_drew)); exact HO295.out⟩, ⟨by repeat (first | (with_reducible first | exact HB.out | apply below_alloc | apply pw_below_drewN | apply below_drew1) | exact HB.out)⟩⟩
       ·rw [if_neg c7] at H
        exact absurd H (by simp)
      ·rw [if_neg c5] at H
       exact absurd H (by simp)
     ·rw [if_neg c4] at H
      exact absurd H (by simp)
    ·rw [if_neg c3] at H
     have c3b0 : (x5_1 == (a0.size : Int)) = false := beq_eq_false_iff_ne.mpr c3
     have c3b1 : (x5_1 != (a0.size : Int)) = true := bne_iff_ne.mpr c3
     by_cases c9 : 0 ≤ x5_1
     ·rw [if_pos c9] at H
      have c9b0 : decide (0 ≤ x5_1) = true := decide_eq_true c9
      clear c9
      by_cases c10 : x5_1 < (a0.size : Int)
      ·rw [if_pos c10] at H
       have c10b0 : decide (x5_1 < (a0.size : Int)) = true := decide_eq_true c10
       clear c10
       by_cases c12 : (bt a0 x5_1) = 32
       ·rw [if_pos c12] at H
        have c12b0 : ((bt a0 x5_1) == 32) = true := beq_iff_eq.mpr c12
        have c12b1 : ((bt a0 x5_1) != 32) = false := bne_eq_false_iff_eq.mpr c12
        clear c12
        by_cases c13 : 0 ≤ x4_1
        ·rw [if_pos c13] at H
         have c13b0 := eq_true c13
         have c13b1 : decide (0 ≤ x4_1) = true := decide_eq_true c13
         clear c13
         by_cases c14 : x4_1 ≤ x5_1
         ·rw [if_pos c14] at H
          have c14b0 := eq_true c14
          have c14b1 : decide (x4_1 ≤ x5_1) = true := decide_eq_true c14
          clear c14
          have c15b0 := eq_true (of_decide_eq_true (by first | (with_reducible assumption) | assumption) : x5_1 ≤ (a0.size : Int))
          by_cases c16 : x3_1.length < 8796093022208
          ·rw [if_pos c16] at H
           have LMc16 := Aside0.mk c16
           clear c16
           obtain ⟨y296, hy296⟩ : ∃ y_ : List ByteArray, y_ = (x3_1 ++ [a0.extract (x4_1 : Int).toNat (x5_1 : Int).toNat]) := ⟨_, rfl⟩
           replace H : (graftageref56_Split.l0 k1 a0 y296 (wrap64 (x5_1 + 1)) (wrap64 (x5_1 + 1))) = some r := by first | (rw [hy296]; with_reducible exact H) | (have H2_ := (Option.bind_some _ _).symm.trans H; rw [hy296]; with_reducible exact H2_) | (have H2_ := (Option.bind_some _ _).symm.trans H; with_reducible exact H2_) | with_reducible exact H | (rw [hy296]; exact H) | exact H
           have Ny296 := Aside0.mk hy296
           clear hy296
           have H' := Aside0.mk H
           clear H
           have p11 : 0 ≤ (x5_1 : Int) := of_decide_eq_true (by first | (with_reducible assumption) | assumption)
           have q11 : x5_1 < (a0.size : Int) := of_decide_eq_true (by first | (with_reducible assumption) | assumption)
           have hx11 := bt_at a0 x5_1
           replace p11 := eq_true p11
           replace q11 := eq_true q11
           go_wp2_with (first | ((with_reducible refine gate_builtin (b := .append) (xs := #[.tmp 22, .tmp 27]) rfl ?_); at_builtin; refine Kd.R_append Kd.string (w0 := w) w.heap.size rfl (.tmp 22) (.tmp 27) 22 9 (.string ⟨#[]⟩) 16 rfl Tryd.underlying22 info9 rfl (by decide) (by omega) u3 x3_1 (a0.extract (x4_1 : Int).toNat (x5_1 : Int).toNat) [.string (a0.extract (x4_1 : Int).toNat (x5_1 : Int).toNat)] (fun _ => True) (fun _ => False) rfl rfl ?aP (fun _ hk => hk.elim) ?aF ?aO ?aB ?aS ?aL ?_; (case aP => exact rfl); (case aB => exact (by repeat (first | (with_reducible first | exact HB.out | apply below_alloc | apply pw_below_drewN | apply below_drew1) | exact HB.out))); (case aF => exact (fun _ _ => trivial)); (case aO => exact (by (with_reducible repeat (first | apply Kd.R_alloc | apply Kd.R_drewN | apply Kd.R_drew)); exact HO_3.out)); (case aS => exact (below_size (by repeat (first | (with_reducible first | exact HB.out | apply below_alloc | apply pw_below_drewN | apply below_drew1) | exact HB.out)))); (case aL => have := LMc16.out; omega); intro v297 w17 ho hb hg hat; rw [← Ny296.out] at ho; have n0_ := Aside0.mk (hb); have n1_ := Aside0.mk (ho); clear HB; clear HO_3; have HB := n0_; have HO298 := n1_; clear n0_ n1_; clear ho hb hg hat))
           go_roundg k1
           case measure => have := HK1.out; omega
           case rel => exact ⟨(y296), (wrap64 (x5_1 + 1)), (wrap64 (x5_1 + 1)), (by first | rfl | (simp; done) | (simp [*]; done)), (by first | rfl | (simp; done) | (simp [*]; done)), H', ⟨by have := HK1.out; omega⟩, ⟨by (with_reducible repeat (first | apply Kd.R_alloc | apply Kd.R_drewN | apply Kd.R_drew)); exact HO298.out⟩, ⟨by repeat (first | (with_reducible first | exact HB.out | apply below_alloc | apply pw_below_drewN | apply below_drew1) | exact HB.out)⟩⟩
          ·rw [if_neg c16] at H
           exact absurd H (by simp)
         ·rw [if_neg c14] at H
          exact absurd H (by simp)
        ·rw [if_neg c13] at H
         exact absurd H (by simp)
       ·rw [if_neg c12] at H
        have c12b0 : ((bt a0 x5_1) == 32) = false := beq_eq_false_iff_ne.mpr c12
        have c12b1 : ((bt a0 x5_1) != 32) = true := bne_iff_ne.mpr c12
        have H' := Aside0.mk H
        clear H
        have p11 : 0 ≤ (x5_1 : Int) := of_decide_eq_true (by first | (with_reducible assumption) | assumption)
        have q11 : x5_1 < (a0.size : Int) := of_decide_eq_true (by first | (with_reducible assumption) | assumption)
        have hx11 := bt_at a0 x5_1
        replace p11 := eq_true p11
        replace q11 := eq_true q11
        go_wp2
        go_roundg k1
        case measure => have := HK1.out; omega
        case rel => exact ⟨(x3_1), (x4_1), (wrap64 (x5_1 + 1)), (by first | rfl | (simp; done) | (simp [*]; done)), (by first | rfl | (simp; done) | (simp [*]; done)), H', ⟨by have := HK1.out; omega⟩, ⟨by (with_reducible repeat (first | apply Kd.R_alloc | apply Kd.R_drewN | apply Kd.R_drew)); exact HO_3.out⟩, ⟨by repeat (first | (with_reducible first | exact HB.out | apply below_alloc | apply pw_below_drewN | apply below_drew1) | exact HB.out)⟩⟩
      ·rw [if_neg c10] at H
       exact absurd H (by simp)
     ·rw [if_neg c9] at H
      exact absurd H (by simp)
   ·rw [if_neg c2] at H
    have c2b0 : decide (x5_1 ≤ (a0.size : Int)) = false := decide_eq_false c2
    clear c2
    obtain rfl := Option.some.inj H
    go_wp2
    go_ret
    exact ⟨_, by first | rfl | (simp [errW_none, errW_some] <;> rfl) | (simp [*, errW_none, errW_some] <;> rfl), by (with_reducible repeat (first | apply Kd.R_alloc | apply Kd.R_drewN | apply Kd.R_drew)); exact HO_3.out, by repeat (first | (with_reducible first | exact HB.out | apply below_alloc | apply pw_below_drewN | apply below_drew1) | exact HB.out)⟩
mutual
def graftageref14_Number.j0 : Nat → ByteArray → Bool → Option (Int)
 | 0, _, _ => none
 | k + 1, x0, x25 => if x25 = true then (some (-1)) else (graftageref14_Number.l0 k x0 0 0)
def graftageref14_Number.l0 : Nat → ByteArray → Int → Int → Option (Int)
 | 0, _, _, _ => none
 | k + 1, x0, x5, x6 => if x6 < (x0.size : Int) then (if 0 ≤ x6 then (if (bt x0 x6) < 48 then (some (-1)) else (if (bt x0 x6) > 57 then (some (-1)) else (graftageref14_Number.l0 k x0 (wrap64 ((wrap64 (10 * x5)) + (((bt x0 x6) - 48) % 256))) (wrap64 (x6 + 1))))) else (none)) else (some x5)
end
def graftageref14_Number.f (k : Nat) (a0 : ByteArray) (a1 : Int) : Option (Int) := if (a0.size : Int) < 1 then (graftageref14_Number.j0 k a0 true) else (if (a0.size : Int) > a1 then (graftageref14_Number.j0 k a0 true) else (if (a0.size : Int) > 1 then (if 0 < (a0.size : Int) then (graftageref14_Number.j0 k a0 ((bt a0 0) == 48)) else (none)) else (graftageref14_Number.j0 k a0 false)))
set_option maxHeartbeats 8000000 in
set_option maxRecDepth 100000 in
theorem graftageref14_Number.calls (k : Nat) (a0 : ByteArray) (a1 : Int) (r : Int) (w : World) (h : graftageref14_Number.f k a0 a1 = some r) :
  Calls Tryd.prog 48 #[.string a0, .int .i64 a1] w fun e w' => e = .returned (.int .i64 r) ∧ Drawn0 w w' := by
 have H : (if (a0.size : Int) < 1 then (graftageref14_Number.j0 k a0 true) else (if (a0.size : Int) > a1 then (graftageref14_Number.j0 k a0 true) else (if (a0.size : Int) > 1 then (if 0 < (a0.size : Int) then (graftageref14_Number.j0 k a0 ((bt a0 0) == 48)) else (none)) else (graftageref14_Number.j0 k a0 false)))) = some r := h
 clear h
 have HC3 := Aside0.mk H
 clear H
 go_enter Tryd.func48, Tryd.ntmps48
 go_upto_region 1 with (fail)
 go_cut [25] (fun v25 wc => ∃ (kq : Nat) (x25_2 : Bool), v25 = .bool x25_2 ∧ Aside0 (graftageref14_Number.j0 kq a0 x25_2 = some r) ∧ Aside0 (kq ≤ k) ∧ Drawn0 w wc)
 case first =>
  have H := HC3.out
  clear HC3
  by_cases c4 : (a0.size : Int) < 1
  ·rw [if_pos c4] at H
   have c4b0 : decide ((a0.size : Int) < 1) = true := decide_eq_true c4
   have c4b1 : decide (a0.size < 1) = true := decide_eq_true (by omega)
   clear c4
   (first | rw [c4b0] | (simp only [i64_w, i32_w]; rw [c4b0]) | skip)
   have H' := Aside0.mk H
   clear H
   go_wp2
   go_meet
   case rel => exact ⟨_, (true), (by first | rfl | (simp; done) | (simp [*]; done)), H', ⟨by first | omega | exact Nat.le_refl _⟩, by repeat (first | exact Drawn0.refl _ | apply Drawn0.step)⟩
  ·rw [if_neg c4] at H
   have c4b0 : decide ((a0.size : Int) < 1) = false := decide_eq_false c4
   have c4b1 : decide (a0.size < 1) = false := decide_eq_false (by omega)
   clear c4
   (first | rw [c4b0] | (simp only [i64_w, i32_w]; rw [c4b0]) | skip)
   by_cases c5 : (a0.size : Int) > a1
   ·rw [if_pos c5] at H
    have c5b0 : decide (a1 < (a0.size : Int)) = true := decide_eq_true c5
    clear c5
    have H' := Aside0.mk H
    clear H
    go_wp2
    go_meet
    case rel => exact ⟨_, (true), (by first | rfl | (simp; done) | (simp [*]; done)), H', ⟨by first | omega | exact Nat.le_refl _⟩, by repeat (first | exact Drawn0.refl _ | apply Drawn0.step)⟩
   ·rw [if_neg c5] at H
    have c5b0 : decide (a1 < (a0.size : Int)) = false := decide_eq_false c5
    clear c5
    by_cases c6 : (a0.size : Int) > 1
    ·rw [if_pos c6] at H
     have c6b0 : decide (1 < (a0.size : Int)) = true := decide_eq_true c6
     have c6b1 : decide (1 < a0.size) = true := decide_eq_true (by omega)
     clear c6
     by_cases c7 : 0 < (a0.size : Int)
     ·rw [if_pos c7] at H
      have c7b0 : decide (0 < (a0.size : Int)) = true := decide_eq_true c7
      have c7b1 : decide (0 < a0.size) = true := decide_eq_true (by omega)
      clear c7
      have H' := Aside0.mk H
      clear H
      have p8 : 0 ≤ (0 : Int) := (by omega)
      have q8 : 0 < a0.size := (by have : (0 : Int) < (a0.size : Int) := of_decide_eq_true (by first | (with_reducible assumption) | assumption); omega)
      have hx8 : ∀ h : 0 < a0.size, ((a0[0]'h).toNat : Int) = bt a0 0 := bt_at a0 0
      clear p8
      have qi8 : (0 < (a0.size : Int)) = True := eq_true (of_decide_eq_true (by first | (with_reducible assumption) | assumption))
      replace q8 := eq_true q8
      go_wp2
      go_meet
      case rel => exact ⟨_, (((bt a0 0) == 48)), (by first | rfl | (simp; done) | (simp [*]; done)), H', ⟨by first | omega | exact Nat.le_refl _⟩, by repeat (first | exact Drawn0.refl _ | apply Drawn0.step)⟩
     ·rw [if_neg c7] at H
      exact absurd H (by simp)
    ·rw [if_neg c6] at H
     have c6b0 : decide (1 < (a0.size : Int)) = false := decide_eq_false c6
     have c6b1 : decide (1 < a0.size) = false := decide_eq_false (by omega)
     clear c6
     have H' := Aside0.mk H
     clear H
     go_wp2
     go_meet
     case rel => exact ⟨_, (false), (by first | rfl | (simp; done) | (simp [*]; done)), H', ⟨by first | omega | exact Nat.le_refl _⟩, by repeat (first | exact Drawn0.refl _ | apply Drawn0.step)⟩
 case rest =>
  clear HC3
  try clear p2
  try clear c4
  try clear c4b0
  try clear c4b1
  try clear c5
  try clear c5b0
  try clear c6
  try clear c6b0
  try clear c6b1
  try clear c7
  try clear c7b0
  try clear c7b1
  try clear p8
  try clear q8
  try clear hx8
  try clear qi8
  try clear p8
  try clear q8
  obtain ⟨kq, x25_2, rfl, HA, HJ2, ⟨mc2, rfl⟩⟩ := hcut
  cases kq with
  | zero => exact absurd HA.out (by simp [graftageref14_Number.j0])
  | succ kj2 =>
   have H := HA.out
   clear HA
   simp only [graftageref14_Number.j0] at H
   by_cases c9 : x25_2 = true
   ·subst c9
    have H1 : (some (-1)) = some r := by rw [if_pos rfl] at H; exact H
    clear H
    have H := H1
    clear H1
    obtain rfl := Option.some.inj H
    go_wp2
    go_ret
    exact ⟨by first | rfl | (simp; done) | (simp [*]; done), by repeat (first | exact Drawn0.refl _ | apply Drawn0.step)⟩
   ·replace c9 := Bool.eq_false_iff.mpr c9
    subst c9
    have H1 : (graftageref14_Number.l0 kj2 a0 0 0) = some r := by rw [if_neg (show ¬ (false = true) by decide)] at H; exact H
    clear H
    have H := H1
    clear H1
    have H' := Aside0.mk H
    clear H
    go_wp2
    go_loopg [5, 6] kj2 (fun kq v5 v6 w' => ∃ (x5_2 : Int) (x6_2 : Int), v5 = .int .i64 x5_2 ∧ v6 = .int .i64 x6_2 ∧ Aside0 (graftageref14_Number.l0 kq a0 x5_2 x6_2 = some r) ∧ Aside0 (kq ≤ kj2) ∧ Drawn0 w w')
    case atStart => exact ⟨(0), (0), (by first | rfl | (simp; done) | (simp [*]; done)), (by first | rfl | (simp; done) | (simp [*]; done)), H', ⟨Nat.le_refl _⟩, by repeat (first | exact Drawn0.refl _ | apply Drawn0.step)⟩
    case round =>
     clear H'
     try clear c2
     try clear p2
     try clear c4
     try clear c4b0
     try clear c4b1
     try clear c5
     try clear c5b0
     try clear c6
     try clear c6b0
     try clear c6b1
     try clear c7
     try clear c7b0
     try clear c7b1
     try clear p8
     try clear q8
     try clear hx8
     try clear qi8
     try clear c9
     try clear p2
     try clear p8
     try clear q8
     obtain ⟨x5_2, x6_2, rfl, rfl, HA, HK2, ⟨m2, rfl⟩⟩ := hrel
     cases gk with
     | zero => exact absurd HA.out (by simp [graftageref14_Number.l0])
     | succ k2 =>
      have H := HA.out
      clear HA
      simp only [graftageref14_Number.l0] at H
      by_cases c10 : x6_2 < (a0.size : Int)
      ·rw [if_pos c10] at H
       have c10b0 : decide (x6_2 < (a0.size : Int)) = true := decide_eq_true c10
       clear c10
       by_cases c11 : 0 ≤ x6_2
       ·rw [if_pos c11] at H
        have c11b0 : decide (0 ≤ x6_2) = true := decide_eq_true c11
        clear c11
        by_cases c13 : (bt a0 x6_2) < 48
        ·rw [if_pos c13] at H
         have c13b0 : decide ((bt a0 x6_2) < 48) = true := decide_eq_true c13
         clear c13
         obtain rfl := Option.some.inj H
         have p12 : 0 ≤ (x6_2 : Int) := of_decide_eq_true (by first | (with_reducible assumption) | assumption)
         have q12 : x6_2 < (a0.size : Int) := of_decide_eq_true (by first | (with_reducible assumption) | assumption)
         have hx12 := bt_at a0 x6_2
         replace p12 := eq_true p12
         replace q12 := eq_true q12
         go_wp2
         go_ret
         exact ⟨by first | rfl | (simp; done) | (simp [*]; done), by repeat (first | exact Drawn0.refl _ | apply Drawn0.step)⟩
        ·rw [if_neg c13] at H
         have c13b0 : decide ((bt a0 x6_2) < 48) = false := decide_eq_false c13
         clear c13
         by_cases c15 : (bt a0 x6_2) > 57
         ·rw [if_pos c15] at H
          have c15b0 : decide (57 < (bt a0 x6_2)) = true := decide_eq_true c15
          clear c15
          obtain rfl := Option.some.inj H
          have p12 : 0 ≤ (x6_2 : Int) := of_decide_eq_true (by first | (with_reducible assumption) | assumption)
          have q12 : x6_2 < (a0.size : Int) := of_decide_eq_true (by first | (with_reducible assumption) | assumption)
          have hx12 := bt_at a0 x6_2
          replace p12 := eq_true p12
          replace q12 := eq_true q12
          have p14 : 0 ≤ (x6_2 : Int) := of_decide_eq_true (by first | (with_reducible assumption) | assumption)
          have q14 : x6_2 < (a0.size : Int) := of_decide_eq_true (by first | (with_reducible assumption) | assumption)
          have hx14 := bt_at a0 x6_2
          replace p14 := eq_true p14
          replace q14 := eq_true q14
          go_wp2
          go_ret
          exact ⟨by first | rfl | (simp; done) | (simp [*]; done), by repeat (first | exact Drawn0.refl _ | apply Drawn0.step)⟩
         ·rw [if_neg c15] at H
          have c15b0 : decide (57 < (bt a0 x6_2)) = false := decide_eq_false c15
          clear c15
          have H' := Aside0.mk H
          clear H
          have p12 : 0 ≤ (x6_2 : Int) := of_decide_eq_true (by first | (with_reducible assumption) | assumption)
          have q12 : x6_2 < (a0.size : Int) := of_decide_eq_true (by first | (with_reducible assumption) | assumption)
          have hx12 := bt_at a0 x6_2
          replace p12 := eq_true p12
          replace q12 := eq_true q12
          have p14 : 0 ≤ (x6_2 : Int) := of_decide_eq_true (by first | (with_reducible assumption) | assumption)
          have q14 : x6_2 < (a0.size : Int) := of_decide_eq_true (by first | (with_reducible assumption) | assumption)
          have hx14 := bt_at a0 x6_2
          replace p14 := eq_true p14
          replace q14 := eq_true q14
          have p16 : 0 ≤ (x6_2 : Int) := of_decide_eq_true (by first | (with_reducible assumption) | assumption)
          have q16 : x6_2 < (a0.size : Int) := of_decide_eq_true (by first | (with_reducible assumption) | assumption)
          have hx16 := bt_at a0 x6_2
          replace p16 := eq_true p16
          replace q16 := eq_true q16
          go_wp2
          go_roundg k2
          case measure => have := HJ2.out; have := HK2.out; omega
          case rel => exact ⟨(wrap64 ((wrap64 (10 * x5_2)) + (((bt a0 x6_2) - 48) % 256))), (wrap64 (x6_2 + 1)), (by first | rfl | (simp; done) | (simp [*]; done)), (by first | rfl | (simp; done) | (simp [*]; done)), H', ⟨by have := HJ2.out; have := HK2.out; omega⟩, by repeat (first | exact Drawn0.refl _ | apply Drawn0.step)⟩
       ·rw [if_neg c11] at H
        exact absurd H (by simp)
      ·rw [if_neg c10] at H
       have c10b0 : decide (x6_2 < (a0.size : Int)) = false := decide_eq_false c10
       clear c10
       obtain rfl := Option.some.inj H
       go_wp2
       go_ret
       exact ⟨by first | rfl | (simp; done) | (simp [*]; done), by repeat (first | exact Drawn0.refl _ | apply Drawn0.step)⟩
end Go.Proofs.YtcmemgahgenpdaaDoor.PSc
end
section
namespace Go.Proofs.YtcmemgahgenpdaaDoor.PSc
open Go.Proofs.YtcmemgahgenpdaaDoor.Hand Go.RowKit Go.Proofs.YtcmemgahgenpdaaDoorW.PrintWords Go.Proofs.YtcmemgahgenpdaaDoorW.PrintLast Go.Proofs.YtcmemgahgenpdaaDoorW.PrintMore
attribute [local go_sem] max2_int min2_int max_two min_two max_three min_three max_four min_four
set_option linter.unusedVariables false
set_option linter.unusedSimpArgs false
def graftageref56_number.j0 : Nat → ByteArray → Bool → Option (Int × Bool)
 | 0, _, _ => none
 | k + 1, x0, x13 => if x13 = true then (if 1 ≤ (x0.size : Int) then ((graftageref14_Number.f k (x0.extract 1 x0.size) 13).bind fun t299 => (if t299 > 0 then (some (wrap64 (-t299), decide (t299 ≤ 1099511627776))) else (some (wrap64 (-t299), false)))) else (none)) else ((graftageref14_Number.f k x0 13).bind fun t300 => (if t300 ≥ 0 then (some (t300, decide (t300 ≤ 1099511627776))) else (some (t300, false))))
def graftageref56_number.f (k : Nat) (a0 : ByteArray) : Option (Int × Bool) := if (a0.size : Int) > 1 then (if 0 < (a0.size : Int) then (graftageref56_number.j0 k a0 ((bt a0 0) == 45)) else (none)) else (graftageref56_number.j0 k a0 false)
set_option maxHeartbeats 8000000 in
set_option maxRecDepth 100000 in
theorem graftageref56_number.calls (k : Nat) (a0 : ByteArray) (r1 : Int) (r2 : Bool) (w : World) (h : graftageref56_number.f k a0 = some (r1, r2)) :
  Calls Tryd.prog 33 #[.string a0] w fun e w' => e = .returned (.tuple #[.int .i64 r1, .bool r2]) ∧ Drawn0 w w' := by
 have H : (if (a0.size : Int) > 1 then (if 0 < (a0.size : Int) then (graftageref56_number.j0 k a0 ((bt a0 0) == 45)) else (none)) else (graftageref56_number.j0 k a0 false)) = some (r1, r2) := h
 clear h
 have HC2 := Aside0.mk H
 clear H
 go_enter Tryd.func33, Tryd.ntmps33
 go_upto_region 1 with (fail)
 go_cut [13] (fun v13 wc => ∃ (kq : Nat) (x13_1 : Bool), v13 = .bool x13_1 ∧ Aside0 (graftageref56_number.j0 kq a0 x13_1 = some (r1, r2)) ∧ Aside0 (kq ≤ k) ∧ Drawn0 w wc)
 case first =>
  have H := HC2.out
  clear HC2
  by_cases c3 : (a0.size : Int) > 1
  ·rw [if_pos c3] at H
   have c3b0 : decide (1 < (a0.size : Int)) = true := decide_eq_true c3
   have c3b1 : decide (1 < a0.size) = true := decide_eq_true (by omega)
   clear c3
   (first | rw [c3b0] | (simp only [i64_w, i32_w]; rw [c3b0]) | skip)
   by_cases c4 : 0 < (a0.size : Int)
   ·rw [if_pos c4] at H
    have c4b0 : decide (0 < (a0.size : Int)) = true := decide_eq_true c4
    have c4b1 : decide (0 < a0.size) = true := decide_eq_true (by omega)
    clear c4
    have H' := Aside0.mk H
    clear H
    have p5 : 0 ≤ (0 : Int) := (by omega)
    have q5 : 0 < a0.size := (by have : (0 : Int) < (a0.size : Int) := of_decide_eq_true (by first | (with_reducible assumption) | assumption); omega)
    have hx5 : ∀ h : 0 < a0.size, ((a0[0]'h).toNat : Int) = bt a0 0 := bt_at a0 0
    clear p5
    have qi5 : (0 < (a0.size : Int)) = True := eq_true (of_decide_eq_true (by first | (with_reducible assumption) | assumption))
    replace q5 := eq_true q5
    go_wp2
    go_meet
    case rel => exact ⟨_, (((bt a0 0) == 45)), (by first | rfl | (simp; done) | (simp [*]; done)), H', ⟨by first | omega | exact Nat.le_refl _⟩, by repeat (first | exact Drawn0.refl _ | apply Drawn0.step)⟩
   ·rw [if_neg c4] at H
    exact absurd H (by simp)
  ·rw [if_neg c3] at H
   have c3b0 : decide (1 < (a0.size : Int)) = false := decide_eq_false c3
   have c3b1 : decide (1 < a0.size) = false := decide_eq_false (by omega)
   clear c3
   (first | rw [c3b0] | (simp only [i64_w, i32_w]; rw [c3b0]) | skip)
   have H' := Aside0.mk H
   clear H
   go_wp2
   go_meet
   case rel => exact ⟨_, (false), (by first | rfl | (simp; done) | (simp [*]; done)), H', ⟨by first | omega | exact Nat.le_refl _⟩, by repeat (first | exact Drawn0.refl _ | apply Drawn0.step)⟩
 case rest =>
  clear HC2
  try clear p2
  try clear c3
  try clear c3b0
  try clear c3b1
  try clear c4
  try clear c4b0
  try clear c4b1
  try clear p5
  try clear q5
  try clear hx5
  try clear qi5
  try clear p5
  try clear q5
  obtain ⟨kq, x13_1, rfl, HA, HJ1, ⟨mc1, rfl⟩⟩ := hcut
  cases kq with
  | zero => exact absurd HA.out (by simp [graftageref56_number.j0])
  | succ kj1 =>
   have H := HA.out
   clear HA
   simp only [graftageref56_number.j0] at H
   by_cases c6 : x13_1 = true
   ·subst c6
    have H1 : (if 1 ≤ (a0.size : Int) then ((graftageref14_Number.f kj1 (a0.extract 1 a0.size) 13).bind fun t299 => (if t299 > 0 then (some (wrap64 (-t299), decide (t299 ≤ 1099511627776))) else (some (wrap64 (-t299), false)))) else (none)) = some (r1, r2) := by rw [if_pos rfl] at H; exact H
    clear H
    have H := H1
    clear H1
    by_cases c7 : 1 ≤ (a0.size : Int)
    ·rw [if_pos c7] at H
     have c7b0 := eq_true c7
     have c7b1 : decide (1 ≤ (a0.size : Int)) = true := decide_eq_true c7
     clear c7
     replace H := Option.bind_eq_some_iff.mp H
     obtain ⟨t299, A80, H⟩ := H
     replace H : (if t299 > 0 then (some (wrap64 (-t299), decide (t299 ≤ 1099511627776))) else (some (wrap64 (-t299), false))) = some (r1, r2) := H
     have A8 := Aside0.mk A80
     clear A80
     by_cases c9 : t299 > 0
     ·rw [if_pos c9] at H
      have c9b0 : decide (0 < t299) = true := decide_eq_true c9
      clear c9
      simp only [Option.some.injEq, Prod.mk.injEq] at H
      obtain ⟨rfl, rfl⟩ := H
      go_wp2_with (first | ((with_reducible refine gate_callee (f := 48) rfl ?_); refine goesL_ (some 16) rfl rfl Tryd.func48 (by kernel_rfl) rfl #[.string (a0.extract 1 a0.size), .int .i64 13] rfl (by (try simp only [List.map_toArray, List.map_cons, List.map_nil]); first | done | rfl | (simp only [List.length_drop, List.length_take]; rfl)) ?_; (with_reducible refine (graftageref14_Number.calls kj1 (a0.extract 1 a0.size) 13 t299 _ A8.out).mono ?_); rintro e w' ⟨rfl, ⟨nd, rfl⟩⟩; refine ⟨_, rfl, ?_⟩))
      go_ret2
      exact ⟨by first | rfl | (simp; done) | (simp [*]; done), by repeat (first | exact Drawn0.refl _ | apply Drawn0.step)⟩
     ·rw [if_neg c9] at H
      have c9b0 : decide (0 < t299) = false := decide_eq_false c9
      clear c9
      simp only [Option.some.injEq, Prod.mk.injEq] at H
      obtain ⟨rfl, rfl⟩ := H
      go_wp2_with (first | ((with_reducible refine gate_callee (f := 48) rfl ?_); refine goesL_ (some 16) rfl rfl Tryd.func48 (by kernel_rfl) rfl #[.string (a0.extract 1 a0.size), .int .i64 13] rfl (by (try simp only [List.map_toArray, List.map_cons, List.map_nil]); first | done | rfl | (simp only [List.length_drop, List.length_take]; rfl)) ?_; (with_reducible refine (graftageref14_Number.calls kj1 (a0.extract 1 a0.size) 13 t299 _ A8.out).mono ?_); rintro e w' ⟨rfl, ⟨nd, rfl⟩⟩; refine ⟨_, rfl, ?_⟩))
      go_ret2
      exact ⟨by first | rfl | (simp; done) | (simp [*]; done), by repeat (first | exact Drawn0.refl _ | apply Drawn0.step)⟩
    ·rw [if_neg c7] at H
     exact absurd H (by simp)
   ·replace c6 := Bool.eq_false_iff.mpr c6
    subst c6
    have H1 : ((graftageref14_Number.f kj1 a0 13).bind fun t300 => (if t300 ≥ 0 then (some (t300, decide (t300 ≤ 1099511627776))) else (some (t300, false)))) = some (r1, r2) := by rw [if_neg (show ¬ (false = true) by decide)] at H; exact H
    clear H
    have H := H1
    clear H1
    replace H := Option.bind_eq_some_iff.mp H
    obtain ⟨t300, A100, H⟩ := H
    replace H : (if t300 ≥ 0 then (some (t300, decide (t300 ≤ 1099511627776))) else (some (t300, false))) = some (r1, r2) := H
    have A10 := Aside0.mk A100
    clear A100
    by_cases c11 : t300 ≥ 0
    ·rw [if_pos c11] at H
     have c11b0 : decide (0 ≤ t300) = true := decide_eq_true c11
     clear c11
     simp only [Option.some.injEq, Prod.mk.injEq] at H
     obtain ⟨rfl, rfl⟩ := H
     go_wp2_with (first | ((with_reducible refine gate_callee (f := 48) rfl ?_); refine goesL_ (some 26) rfl rfl Tryd.func48 (by kernel_rfl) rfl #[.string a0, .int .i64 13] rfl (by (try simp only [List.map_toArray, List.map_cons, List.map_nil]); first | done | rfl | (simp only [List.length_drop, List.length_take]; rfl)) ?_; (with_reducible refine (graftageref14_Number.calls kj1 a0 13 t300 _ A10.out).mono ?_); rintro e w' ⟨rfl, ⟨nd, rfl⟩⟩; refine ⟨_, rfl, ?_⟩))
     go_ret2
     exact ⟨by first | rfl | (simp; done) | (simp [*]; done), by repeat (first | exact Drawn0.refl _ | apply Drawn0.step)⟩
    ·rw [if_neg c11] at H
     have c11b0 : decide (0 ≤ t300) = false := decide_eq_false c11
     clear c11
     simp only [Option.some.injEq, Prod.mk.injEq] at H
     obtain ⟨rfl, rfl⟩ := H
     go_wp2_with (first | ((with_reducible refine gate_callee (f := 48) rfl ?_); refine goesL_ (some 26) rfl rfl Tryd.func48 (by kernel_rfl) rfl #[.string a0, .int .i64 13] rfl (by (try simp only [List.map_toArray, List.map_cons, List.map_nil]); first | done | rfl | (simp only [List.length_drop, List.length_take]; rfl)) ?_; (with_reducible refine (graftageref14_Number.calls kj1 a0 13 t300 _ A10.out).mono ?_); rintro e w' ⟨rfl, ⟨nd, rfl⟩⟩; refine ⟨_, rfl, ?_⟩))
     go_ret2
     exact ⟨by first | rfl | (simp; done) | (simp [*]; done), by repeat (first | exact Drawn0.refl _ | apply Drawn0.step)⟩
def graftageref02_Digit.j0 : Nat → Int → Bool → Option (Int)
 | 0, _, _ => none
 | k + 1, x0, x8 => if x8 = true then (some ((x0 - 48) % 256)) else (if x0 ≥ 97 then (if x0 ≤ 102 then (some (((x0 - 97) % 256) + 10)) else (some (-1))) else (some (-1)))
def graftageref02_Digit.f (k : Nat) (a0 : Int) : Option (Int) := if a0 ≥ 48 then (graftageref02_Digit.j0 k a0 (decide (a0 ≤ 57))) else (graftageref02_Digit.j0 k a0 false)
theorem graftageref02_Digit.mono_l : ∀ k, (∀ y0 y1, LeO (graftageref02_Digit.j0 k y0 y1) (graftageref02_Digit.j0 (k + 1) y0 y1))
 | 0 => fun _ _ r h => by simp [graftageref02_Digit.j0] at h
 | k + 1 => by
  have ih0 := graftageref02_Digit.mono_l k
  ·intro y0 y1
   unfold graftageref02_Digit.j0
   repeat' first
   | (with_reducible exact ih0 _ _)
   | (with_reducible exact LeO.refl _)
   | (with_reducible exact LeO.none _)
   | (with_reducible refine LeO.ite ?_ ?_)
   | (with_reducible refine LeO.bind ?_ (fun _ => ?_))
   | exact ih0 _ _
   | exact LeO.none _
   | refine LeO.ite ?_ ?_
   | refine LeO.bind ?_ (fun _ => ?_)
theorem graftageref02_Digit.mono : ∀ a0 k, LeO (graftageref02_Digit.f k a0) (graftageref02_Digit.f (k + 1) a0) := by
 intro a0 k
 have ih0 := graftageref02_Digit.mono_l k
 unfold graftageref02_Digit.f
 repeat' first
   | (with_reducible exact ih0 _ _)
   | (with_reducible exact LeO.refl _)
   | (with_reducible exact LeO.none _)
   | (with_reducible refine LeO.ite ?_ ?_)
   | (with_reducible refine LeO.bind ?_ (fun _ => ?_))
   | exact ih0 _ _
   | exact LeO.none _
   | refine LeO.ite ?_ ?_
   | refine LeO.bind ?_ (fun _ => ?_)
set_option maxHeartbeats 8000000 in
set_option maxRecDepth 100000 in
theorem graftageref02_Digit.calls (k : Nat) (a0 : Int) (r : Int) (w : World) (h : graftageref02_Digit.f k a0 = some r) :
  Calls Tryd.prog 49 #[.int .u8 a0] w fun e w' => e = .returned (.int .i64 r) ∧ Drawn0 w w' := by
 have H : (if a0 ≥ 48 then (graftageref02_Digit.j0 k a0 (decide (a0 ≤ 57))) else (graftageref02_Digit.j0 k a0 false)) = some r := h
 clear h
 have HC2 := Aside0.mk H
 clear H
 go_enter Tryd.func49, Tryd.ntmps49
 go_upto_region 1 with (fail)
 go_cut [8] (fun v8 wc => ∃ (kq : Nat) (x8_1 : Bool), v8 = .bool x8_1 ∧ Aside0 (graftageref02_Digit.j0 kq a0 x8_1 = some r) ∧ Aside0 (kq ≤ k) ∧ Drawn0 w wc)
 case first =>
  have H := HC2.out
  clear HC2
  by_cases c3 : a0 ≥ 48
  ·rw [if_pos c3] at H
   have c3b0 : decide (48 ≤ a0) = true := decide_eq_true c3
   clear c3
   (first | rw [c3b0] | (simp only [i64_w, i32_w]; rw [c3b0]) | skip)
   have H' := Aside0.mk H
   clear H
   go_wp2
   go_meet
   case rel => exact ⟨_, (decide (a0 ≤ 57)), (by first | rfl | (simp; done) | (simp [*]; done)), H', ⟨by first | omega | exact Nat.le_refl _⟩, by repeat (first | exact Drawn0.refl _ | apply Drawn0.step)⟩
  ·rw [if_neg c3] at H
   have c3b0 : decide (48 ≤ a0) = false := decide_eq_false c3
   clear c3
   (first | rw [c3b0] | (simp only [i64_w, i32_w]; rw [c3b0]) | skip)
   have H' := Aside0.mk H
   clear H
   go_wp2
   go_meet
   case rel => exact ⟨_, (false), (by first | rfl | (simp; done) | (simp [*]; done)), H', ⟨by first | omega | exact Nat.le_refl _⟩, by repeat (first | exact Drawn0.refl _ | apply Drawn0.step)⟩
 case rest =>
  clear HC2
  try clear p2
  try clear c3
  try clear c3b0
  obtain ⟨kq, x8_1, rfl, HA, HJ1, ⟨mc1, rfl⟩⟩ := hcut
  cases kq with
  | zero => exact absurd HA.out (by simp [graftageref02_Digit.j0])
  | succ kj1 =>
   have H := HA.out
   clear HA
   simp only [graftageref02_Digit.j0] at H
   by_cases c4 : x8_1 = true
   ·subst c4
    have H1 : (some ((a0 - 48) % 256)) = some r := by rw [if_pos rfl] at H; exact H
    clear H
    have H := H1
    clear H1
    obtain rfl := Option.some.inj H
    go_wp2
    go_ret
    exact ⟨by first | rfl | (simp; done) | (simp [*]; done), by repeat (first | exact Drawn0.refl _ | apply Drawn0.step)⟩
   ·replace c4 := Bool.eq_false_iff.mpr c4
    subst c4
    have H1 : (if a0 ≥ 97 then (if a0 ≤ 102 then (some (((a0 - 97) % 256) + 10)) else (some (-1))) else (some (-1))) = some r := by rw [if_neg (show ¬ (false = true) by decide)] at H; exact H
    clear H
    have H := H1
    clear H1
    by_cases c5 : a0 ≥ 97
    ·rw [if_pos c5] at H
     have c5b0 : decide (97 ≤ a0) = true := decide_eq_true c5
     clear c5
     by_cases c6 : a0 ≤ 102
     ·rw [if_pos c6] at H
      have c6b0 : decide (a0 ≤ 102) = true := decide_eq_true c6
      clear c6
      obtain rfl := Option.some.inj H
      go_wp2
      go_ret
      exact ⟨by first | rfl | (simp; done) | (simp [*]; done), by repeat (first | exact Drawn0.refl _ | apply Drawn0.step)⟩
     ·rw [if_neg c6] at H
      have c6b0 : decide (a0 ≤ 102) = false := decide_eq_false c6
      clear c6
      obtain rfl := Option.some.inj H
      go_wp2
      go_ret
      exact ⟨by first | rfl | (simp; done) | (simp [*]; done), by repeat (first | exact Drawn0.refl _ | apply Drawn0.step)⟩
    ·rw [if_neg c5] at H
     have c5b0 : decide (97 ≤ a0) = false := decide_eq_false c5
     clear c5
     obtain rfl := Option.some.inj H
     go_wp2
     go_ret
     exact ⟨by first | rfl | (simp; done) | (simp [*]; done), by repeat (first | exact Drawn0.refl _ | apply Drawn0.step)⟩
end Go.Proofs.YtcmemgahgenpdaaDoor.PSc
end
section
namespace Go.Proofs.YtcmemgahgenpdaaDoor.Pure
open Go.RowKit Go.Proofs.YtcmemgahgenpdaaDoor.PSc Go.Proofs.YtcmemgahgenpdaaDoor.Hand Go.Proofs.YtcmemgahgenpdaaDoorW.PrintWords Go.Proofs.YtcmemgahgenpdaaDoorW.PrintLast
set_option linter.unusedVariables false
set_option linter.unusedSimpArgs false
theorem u8_of (m : Nat) (h : m < 10) : (UInt8.ofNat (48 + m)).toNat = 48 + m := by simp; omega
theorem parse_dec (m : Nat) : ∀ (r : List UInt8), m < 1000000000000000000 → Lib.parseUint10 0 (Lib.decDigits m ++ r) = Lib.parseUint10 m r := by
  induction m using Nat.strongRecOn with
  | ind m ih =>
    intro r hm
    have step : ∀ (a d : Nat) (r : List UInt8), d < 10 → a < 100000000000000000 → Lib.parseUint10 a (UInt8.ofNat (48 + d) :: r) = Lib.parseUint10 (a * 10 + d) r := by
      intro a d r hd ha
      have h := u8_of d hd
      simp only [Lib.parseUint10]
      rw [h, if_pos (by omega), if_neg (by omega), if_neg (by omega), show 48 + d - 48 = d by omega]
    by_cases c : m < 10
    · rw [Lib.decDigits_one c]
      have := step 0 m r c (by omega)
      rw [Nat.zero_mul, Nat.zero_add] at this
      exact this
    · rw [dec_step m c, List.append_assoc, ih (m / 10) (by omega) _ (by omega)]
      have := step (m / 10) (m % 10) r (by omega) (by omega)
      rw [show m / 10 * 10 + m % 10 = m by omega] at this
      exact this
theorem parseMag_dec (m : Nat) (hm : m < 1000000000000000000) : Lib.parseMag (Lib.decDigits m) = .ok m := by
  unfold Lib.parseMag
  have h := parse_dec m [] hm
  rw [List.append_nil] at h
  rw [if_neg (fun e => by have := dec_size m; rw [e] at this; simp at this), h]
  rfl
theorem dec_mem (m : Nat) : ∀ c ∈ Lib.decDigits m, 48 ≤ c.toNat ∧ c.toNat ≤ 57 := by
  induction m using Nat.strongRecOn with
  | ind m ih =>
    intro c hc
    by_cases h : m < 10
    · rw [Lib.decDigits_one h, List.mem_singleton] at hc
      rw [hc, u8_of m h]; omega
    · rw [dec_step m h, List.mem_append, List.mem_singleton] at hc
      rcases hc with hc | rfl
      · exact ih (m / 10) (by omega) c hc
      · rw [u8_of _ (by omega)]; omega
theorem dec_head (m : Nat) : ∃ c t, Lib.decDigits m = c :: t ∧ (c.toNat = 48 → t = []) := by
  induction m using Nat.strongRecOn with
  | ind m ih =>
    by_cases h : m < 10
    · exact ⟨_, [], Lib.decDigits_one h, fun _ => rfl⟩
    · obtain ⟨c, t, e, h0⟩ := ih (m / 10) (by omega)
      refine ⟨c, t ++ [UInt8.ofNat (48 + m % 10)], by rw [dec_step m h, e]; rfl, fun hc => ?_⟩
      have ht := h0 hc
      subst ht
      by_cases h2 : m / 10 < 10
      · rw [Lib.decDigits_one h2] at e
        injection e with e1
        rw [← e1, u8_of _ h2] at hc
        omega
      · have h3 := dec_step (m / 10) h2
        rw [e] at h3
        have := congrArg List.length h3
        have hs := dec_size (m / 10 / 10)
        simp only [List.length_append, List.length_cons, List.length_nil] at this; omega
theorem dec_len (j : Nat) : ∀ m, m < 10 ^ (j + 1) → (Lib.decDigits m).length ≤ j + 1 := by
  induction j with
  | zero => intro m h; rw [Lib.decDigits_one (by omega)]; simp
  | succ j ih =>
    intro m h
    by_cases c : m < 10
    · rw [Lib.decDigits_one c]; simp
    · rw [dec_step m c, List.length_append]
      have := ih (m / 10) (by rw [Nat.pow_succ] at h; omega)
      simp; omega
def NumIs (s : ByteArray) (v : Int) : Prop := Bs s = Lib.itoa v ∧ -1099511627776 ≤ v ∧ v ≤ 1099511627776
theorem atoi_itoa (v : Int) (h0 : -1099511627776 ≤ v) (h1 : v ≤ 1099511627776) : Lib.atoiAll (Lib.itoa v) = .ok v := by
  unfold Lib.itoa
  by_cases c : v < 0
  · rw [if_pos c]
    have hp := parseMag_dec v.natAbs (by omega)
    unfold Lib.atoiAll
    simp only [show (45 : UInt8).toNat = 45 from rfl, or_true, if_true, hp, not_true_eq_false, false_and, if_false, true_and]
    rw [if_neg (by omega)]
    congr 1; omega
  · rw [if_neg c]
    have hp := parseMag_dec v.toNat (by omega)
    obtain ⟨a, t, e, _⟩ := dec_head v.toNat
    have ha := dec_mem v.toNat a (by rw [e]; simp)
    rw [e] at hp ⊢
    unfold Lib.atoiAll
    simp only [show ¬ a.toNat = 43 by omega, show ¬ a.toNat = 45 by omega, or_false, if_false, hp, not_false_eq_true, true_and, false_and]
    rw [if_neg (by omega)]
    congr 1; omega
theorem numP_of {s : ByteArray} {v : Int} (h : NumIs s v) : numP s = (v, true) := by
  obtain ⟨h1, h2, h3⟩ := h
  unfold numP
  rw [show s.data.toList = Lib.itoa v from h1, atoi_itoa v h2 h3]
  simp only
  rw [if_pos ⟨Bs_inj (by rw [h1]; rfl), h2, h3⟩]
theorem numP_true {s : ByteArray} (h : (numP s).2 = true) : NumIs s (numP s).1 := by
  unfold numP at *
  cases ha : Lib.atoiAll s.data.toList with
  | ok v =>
    rw [ha] at h
    simp only at h ⊢
    by_cases c : itoaS v = s ∧ -1099511627776 ≤ v ∧ v ≤ 1099511627776
    · rw [if_pos c]
      exact ⟨by rw [← c.1]; rfl, c.2⟩
    · rw [if_neg c] at h; cases h
  | «syntax» => rw [ha] at h; cases h
  | range => rw [ha] at h; cases h
def NumR (s : ByteArray) (r : Int) : Prop := (r = -1 ∧ ∀ m, m < 10000000000000 → Bs s ≠ Lib.decDigits m) ∨ ∃ m : Nat, r = m ∧ Bs s = Lib.decDigits m ∧ m < 10000000000000
theorem bt_at {s : ByteArray} {i : Nat} (h : i < s.size) : bt s (i : Int) = (((Bs s)[i]'(by rw [Bs_size]; exact h)).toNat : Int) :=
  (bt_list s i h _).1 (List.getElem?_eq_getElem (by rw [data_length]; exact h))
theorem sub48 {c : UInt8} (h : 48 ≤ c.toNat) : (((c.toNat : Int)) - 48) % 256 = ((c.toNat - 48 : Nat) : Int) := by
  have := c.toNat_lt; omega
theorem number_loop (s : ByteArray) (hs : s.size ≤ 13) : ∀ (d i acc : Nat), i + d = s.size → 1 ≤ i → (Bs s).take i = Lib.decDigits acc → acc < 10 ^ i → (acc ≠ 0 ∨ i = s.size) →
    ∃ r, Ev (fun k => graftageref14_Number.l0 k s (acc : Int) (i : Int)) r ∧ NumR s r := by
  intro d
  induction d with
  | zero =>
    intro i acc hd h1 ht ha _
    obtain rfl : i = s.size := by omega
    refine ⟨acc, Ev.succ (Ev.of fun k => ?_), Or.inr ⟨acc, rfl, ?_, ?_⟩⟩
    · rw [graftageref14_Number.l0, if_neg (by omega)]
    · rw [← ht, List.take_of_length_le (by rw [Bs_size]; exact Nat.le_refl _)]
    · exact Nat.lt_of_lt_of_le ha (Nat.pow_le_pow_right (by omega) hs)
  | succ d ih =>
    intro i acc hd h1 ht ha hn
    have hlt : i < s.size := by omega
    have hl : i < (Bs s).length := by rw [Bs_size]; exact hlt
    have hb := bt_at hlt
    have hacc : acc < 10000000000000 := Nat.lt_of_lt_of_le ha (Nat.pow_le_pow_right (by omega) (show i ≤ 13 by omega))
    have w1 : wrap64 ((i : Int) + 1) = ((i + 1 : Nat) : Int) := by rw [wrap64_id (by omega) (by omega)]; rfl
    obtain ⟨c, hc⟩ : ∃ c, (Bs s)[i] = c := ⟨_, rfl⟩
    rw [hc] at hb
    by_cases c1 : 48 ≤ c.toNat ∧ c.toNat ≤ 57
    · have hacc0 : acc ≠ 0 := by omega
      have e1 : wrap64 (wrap64 (10 * (acc : Int)) + (((c.toNat : Int)) - 48) % 256) = ((10 * acc + (c.toNat - 48) : Nat) : Int) := by
        rw [sub48 c1.1, wrap64_id (n := 10 * (acc : Int)) (by omega) (by omega), wrap64_id (by omega) (by omega)]; omega
      have hstep : Lib.decDigits (10 * acc + (c.toNat - 48)) = Lib.decDigits acc ++ [c] := by
        rw [dec_step _ (by omega), show (10 * acc + (c.toNat - 48)) / 10 = acc by omega, show 48 + (10 * acc + (c.toNat - 48)) % 10 = c.toNat by omega]
        congr 2; simp
      obtain ⟨r, hr, hr2⟩ := ih (i + 1) (10 * acc + (c.toNat - 48)) (by omega) (by omega) (by rw [List.take_add_one, List.getElem?_eq_getElem hl, hc, ht, hstep]; rfl) (by rw [Nat.pow_succ]; omega) (Or.inl (by omega))
      refine ⟨r, Ev.succ (Ev.congr (fun k => ?_) hr), hr2⟩
      rw [graftageref14_Number.l0, if_pos (by omega), if_pos (by omega), hb, if_neg (by omega), if_neg (by omega), w1, e1]
    · refine ⟨-1, Ev.succ (Ev.of fun k => ?_), Or.inl ⟨rfl, fun m _ e => c1 (dec_mem m c (by rw [← e, ← hc]; exact List.getElem_mem _))⟩⟩
      rw [graftageref14_Number.l0, if_pos (by omega), if_pos (by omega), hb]
      by_cases c2 : (c.toNat : Int) < 48
      · rw [if_pos c2]
      · rw [if_neg c2, if_pos (by omega)]
theorem Number_ev (s : ByteArray) : ∃ r, Ev (fun k => graftageref14_Number.f k s 13) r ∧ NumR s r := by
  have hsz := Bs_size s
  simp only [graftageref14_Number.f]
  have bad : ∀ f g : Nat → Option Int, (∀ m, m < 10000000000000 → Bs s ≠ Lib.decDigits m) → ∃ r, Ev (fun k => graftageref14_Number.j0 k s true) r ∧ NumR s r := fun _ _ h =>
    ⟨-1, Ev.succ (Ev.of fun k => by rw [graftageref14_Number.j0, if_pos rfl]), Or.inl ⟨rfl, h⟩⟩
  by_cases c1 : s.size < 1
  · obtain ⟨r, hr, h2⟩ := bad (fun _ => none) (fun _ => none) (fun m _ e => by have := dec_size m; rw [← e] at this; omega)
    exact ⟨r, Ev.pos (by omega) hr, h2⟩
  by_cases c2 : s.size > 13
  · obtain ⟨r, hr, h2⟩ := bad (fun _ => none) (fun _ => none) (fun m hm e => by have := dec_len 12 m (by omega); rw [← e] at this; omega)
    exact ⟨r, Ev.neg (by omega) (Ev.pos (by omega) hr), h2⟩
  have hlt : 0 < s.size := by omega
  have hl : 0 < (Bs s).length := by omega
  have hb := bt_at hlt
  obtain ⟨c, hc⟩ : ∃ c, (Bs s)[0] = c := ⟨_, rfl⟩
  rw [hc] at hb
  have first : ¬ (1 < s.size ∧ c.toNat = 48) → ∃ r, Ev (fun k => graftageref14_Number.j0 k s false) r ∧ NumR s r := by
    intro hz
    by_cases d1 : 48 ≤ c.toNat ∧ c.toNat ≤ 57
    · have e1 : wrap64 (wrap64 (10 * (0 : Int)) + (((c.toNat : Int)) - 48) % 256) = ((c.toNat - 48 : Nat) : Int) := by
        rw [sub48 d1.1, wrap64_id (n := 10 * (0 : Int)) (by omega) (by omega), wrap64_id (by omega) (by omega)]; omega
      obtain ⟨r, hr, hr2⟩ := number_loop s (by omega) (s.size - 1) 1 (c.toNat - 48) (by omega) (Nat.le_refl _) (by
        rw [Lib.decDigits_one (by omega), show 48 + (c.toNat - 48) = c.toNat by omega, show (1 : Nat) = 0 + 1 from rfl, List.take_add_one, List.getElem?_eq_getElem hl, hc]; simp) (by omega) (by omega)
      refine ⟨r, Ev.succ (Ev.succ (Ev.congr (fun k => ?_) hr)), hr2⟩
      rw [graftageref14_Number.j0, if_neg (by simp), graftageref14_Number.l0, if_pos (by omega), if_pos (by omega)]
      rw [show bt s 0 = (c.toNat : Int) from hb, if_neg (by omega), if_neg (by omega), e1, show wrap64 (0 + 1) = ((1 : Nat) : Int) by rw [wrap64_id (by omega) (by omega)]; rfl]
    · refine ⟨-1, Ev.succ (Ev.succ (Ev.of fun k => ?_)), Or.inl ⟨rfl, fun m _ e => d1 (dec_mem m c (by rw [← e, ← hc]; exact List.getElem_mem _))⟩⟩
      rw [graftageref14_Number.j0, if_neg (by simp), graftageref14_Number.l0, if_pos (by omega), if_pos (by omega), show bt s 0 = (c.toNat : Int) from hb]
      by_cases c2 : (c.toNat : Int) < 48
      · rw [if_pos c2]
      · rw [if_neg c2, if_pos (by omega)]
  by_cases c3 : s.size > 1
  · by_cases c4 : c.toNat = 48
    · obtain ⟨r, hr, h2⟩ := bad (fun _ => none) (fun _ => none) (fun m hm e => by
        obtain ⟨a, t, e2, h0⟩ := dec_head m
        have hh : Bs s = a :: t := e.trans e2
        have ha : a = c := by rw [← hc]; simp [hh]
        have := h0 (by rw [ha]; exact c4)
        rw [this] at hh
        rw [hh] at hsz
        simp at hsz; omega)
      refine ⟨r, Ev.neg (by omega) (Ev.neg (by omega) (Ev.pos (by omega) (Ev.pos (by omega) ?_))), h2⟩
      rw [show (bt s 0 == 48) = true from beq_iff_eq.2 (by rw [show bt s 0 = (c.toNat : Int) from hb, c4]; rfl)]
      exact hr
    · obtain ⟨r, hr, h2⟩ := first (fun h => c4 h.2)
      refine ⟨r, Ev.neg (by omega) (Ev.neg (by omega) (Ev.pos (by omega) (Ev.pos (by omega) ?_))), h2⟩
      rw [show (bt s 0 == 48) = false from beq_eq_false_iff_ne.2 (by rw [show bt s 0 = (c.toNat : Int) from hb]; omega)]
      exact hr
  · obtain ⟨r, hr, h2⟩ := first (fun h => c3 h.1)
    exact ⟨r, Ev.neg (by omega) (Ev.neg (by omega) (Ev.neg (by omega) hr)), h2⟩
theorem number_ev (s : ByteArray) : ∃ r, Ev (fun k => graftageref56_number.f k s) r ∧ ((r.2 = true ∧ NumIs s r.1) ∨ (r.2 = false ∧ ∀ v, ¬ NumIs s v)) := by
  have hsz := Bs_size s
  have plus : (∀ v, NumIs s v → 0 ≤ v) → ∃ r, Ev (fun k => graftageref56_number.j0 k s false) r ∧ ((r.2 = true ∧ NumIs s r.1) ∨ (r.2 = false ∧ ∀ v, ¬ NumIs s v)) := by
    intro hv
    obtain ⟨t, ht, h2⟩ := Number_ev s
    have key : Ev (fun k => graftageref56_number.j0 k s false) (if t ≥ 0 then (t, decide (t ≤ 1099511627776)) else (t, false)) := by
      refine Ev.succ ?_
      simp only [graftageref56_number.j0]
      refine Ev.neg (by simp) (Ev.bind ht ?_)
      by_cases c : t ≥ 0
      · exact Ev.val (Ev.pos c (Ev.pure _)) (if_pos c).symm
      · exact Ev.val (Ev.neg c (Ev.pure _)) (if_neg c).symm
    refine ⟨_, key, ?_⟩
    rcases h2 with ⟨rfl, hn⟩ | ⟨m, rfl, hm, hm2⟩
    · refine Or.inr ⟨rfl, fun v h => ?_⟩
      have h0 := hv v h
      refine hn v.toNat (by have := h.2.2; omega) ?_
      rw [h.1]; unfold Lib.itoa; rw [if_neg (by omega)]
    · rw [if_pos (by omega)]
      by_cases c : (m : Int) ≤ 1099511627776
      · exact Or.inl ⟨decide_eq_true c, by rw [hm]; show _ = Lib.itoa (m : Int); rw [Lib.itoa_nonneg], by show _ ≤ (m : Int); omega, c⟩
      · refine Or.inr ⟨decide_eq_false c, fun v h => ?_⟩
        have h0 := hv v h
        have e : Lib.decDigits m = Lib.decDigits v.toNat := by rw [← hm, h.1]; unfold Lib.itoa; rw [if_neg (by omega)]
        have e2 := parseMag_dec m (by omega)
        rw [e, parseMag_dec v.toNat (by have := h.2.2; omega)] at e2
        injection e2 with e2
        have := h.2.2; omega
  by_cases c1 : s.size > 1
  · have hlt : 0 < s.size := by omega
    have hl : 0 < (Bs s).length := by omega
    have hb := bt_at hlt
    obtain ⟨c, hc⟩ : ∃ c, (Bs s)[0] = c := ⟨_, rfl⟩
    rw [hc] at hb
    have hcons : Bs s = c :: (Bs s).drop 1 := by
      have := List.drop_eq_getElem_cons hl
      rw [List.drop_zero, hc] at this; exact this
    by_cases c2 : c.toNat = 45
    · have hB : (bt s 0 == 45) = true := beq_iff_eq.2 (by rw [show bt s 0 = (c.toNat : Int) from hb, c2]; rfl)
      have hc45 : c = 45 := UInt8.toNat_inj.1 c2
      obtain ⟨t, ht, h2⟩ := Number_ev (s.extract 1 s.size)
      have hrest : Bs (s.extract 1 s.size) = (Bs s).drop 1 := by
        unfold Bs
        rw [Lib.extract_data, List.take_of_length_le (by rw [List.length_drop, data_length]; exact Nat.le_refl _)]
      have key : Ev (fun k => graftageref56_number.f k s) (if t > 0 then (wrap64 (-t), decide (t ≤ 1099511627776)) else (wrap64 (-t), false)) := by
        simp only [graftageref56_number.f, hB]
        refine Ev.pos (by omega) (Ev.pos (by omega) (Ev.succ ?_))
        simp only [graftageref56_number.j0]
        refine Ev.pos (by first | trivial | rfl) (Ev.pos (by omega) (Ev.bind ht ?_))
        by_cases c : t > 0
        · exact Ev.val (Ev.pos c (Ev.pure _)) (if_pos c).symm
        · exact Ev.val (Ev.neg c (Ev.pure _)) (if_neg c).symm
      refine ⟨_, key, ?_⟩
      have none' : (∀ m, 1 ≤ m → m ≤ 1099511627776 → Bs (s.extract 1 s.size) ≠ Lib.decDigits m) → ∀ v, ¬ NumIs s v := by
        intro hn v h
        have h1 := h.1
        rw [hcons, hc45] at h1
        unfold Lib.itoa at h1
        split at h1
        · injection h1 with _ h1
          exact hn v.natAbs (by omega) (by have := h.2.1; omega) (hrest.trans h1)
        · have := dec_mem v.toNat 45 (by rw [← h1]; simp)
          have e : (45 : UInt8).toNat = 45 := rfl
          omega
      rcases h2 with ⟨rfl, hn⟩ | ⟨m, rfl, hm, hm2⟩
      · exact Or.inr ⟨rfl, none' fun m h1 h2 => hn m (by omega)⟩
      · by_cases c0 : m = 0
        · subst c0
          refine Or.inr ⟨rfl, none' fun m h1 h2 e => ?_⟩
          have e2 := parseMag_dec m (by omega)
          rw [← e, hm, parseMag_dec 0 (by omega)] at e2
          injection e2 with e2
          omega
        · rw [if_pos (by omega), wrap64_id (by omega) (by omega)]
          by_cases c : (m : Int) ≤ 1099511627776
          · refine Or.inl ⟨decide_eq_true c, ?_, by show _ ≤ -(m : Int); omega, by show -(m : Int) ≤ _; omega⟩
            show Bs s = Lib.itoa (-(m : Int))
            rw [Lib.itoa_neg m (by omega), hcons, hc45, ← hrest, hm]
          · refine Or.inr ⟨decide_eq_false c, none' fun m' h1 h2 e => ?_⟩
            have e2 := parseMag_dec m (by omega)
            rw [← hm, e, parseMag_dec m' (by omega)] at e2
            injection e2 with e2
            omega
    · have hB : (bt s 0 == 45) = false := beq_eq_false_iff_ne.2 (by rw [show bt s 0 = (c.toNat : Int) from hb]; omega)
      obtain ⟨r, hr, h2⟩ := plus (fun v h => by
        have h1 := h.1
        rw [hcons] at h1
        unfold Lib.itoa at h1
        split at h1
        · injection h1 with h1 _
          exact absurd (by rw [h1]; rfl) c2
        · omega)
      refine ⟨r, ?_, h2⟩
      simp only [graftageref56_number.f, hB]
      exact Ev.pos (by omega) (Ev.pos (by omega) hr)
  · obtain ⟨r, hr, h2⟩ := plus (fun v h => by
      have h1 := congrArg List.length h.1
      unfold Lib.itoa at h1
      split at h1
      · have := dec_size v.natAbs
        rw [List.length_cons] at h1; omega
      · omega)
    refine ⟨r, ?_, h2⟩
    simp only [graftageref56_number.f]
    exact Ev.neg (by omega) hr
theorem number_num (s : ByteArray) : ∃ r, Ev (fun k => graftageref56_number.f k s) r ∧ r.2 = (numP s).2 ∧ (r.2 = true → r.1 = (numP s).1) := by
  obtain ⟨r, hr, h⟩ := number_ev s
  refine ⟨r, hr, ?_⟩
  rcases h with ⟨h1, h2⟩ | ⟨h1, h2⟩
  · rw [numP_of h2]; exact ⟨h1, fun _ => rfl⟩
  · refine ⟨?_, fun h => by rw [h1] at h; cases h⟩
    rw [h1]
    cases e : (numP s).2 with
    | false => rfl
    | true => exact absurd (numP_true e) (h2 _)
end Go.Proofs.YtcmemgahgenpdaaDoor.Pure
end
section
namespace Go.Proofs.YtcmemgahgenpdaaDoor.Pure
open Go.RowKit Go.Proofs.YtcmemgahgenpdaaDoor.PSc Go.Proofs.YtcmemgahgenpdaaDoor.Hand Go.Proofs.YtcmemgahgenpdaaDoorW.PrintWords Go.Proofs.YtcmemgahgenpdaaDoorW.PrintLast
set_option linter.unusedVariables false
set_option linter.unusedSimpArgs false
def NoSp (w : ByteArray) : Prop := (32 : UInt8) ∉ Bs w
theorem Bs_join (l : List ByteArray) : Bs (joinQ l) = Lib.join (l.map Bs) [32] := rfl
theorem join_two (x y : List UInt8) (r : List (List UInt8)) : Lib.join (x :: y :: r) [32] = x ++ 32 :: Lib.join (y :: r) [32] := by
  rw [Lib.join_cons, Lib.join_cons]
  simp [Lib.joinTail]
theorem ext_mid {s w : ByteArray} {P T : List UInt8} (h : Bs s = P ++ (Bs w ++ T)) : s.extract P.length (P.length + w.size) = w := by
  apply Bs_inj
  show (s.extract P.length (P.length + w.size)).data.toList = _
  rw [Lib.extract_data]
  show ((Bs s).drop P.length).take _ = _
  rw [h, List.drop_left, show P.length + w.size - P.length = (Bs w).length by rw [Bs_size]; omega, List.take_left]
theorem split_run (s : ByteArray) (hs : s.size ≤ 1000000000) (w : ByteArray) (hw : NoSp w) (P T : List UInt8) (h : Bs s = P ++ (Bs w ++ T)) (x : List ByteArray) (r : List ByteArray)
    (hr : Ev (fun k => graftageref56_Split.l0 k s x (P.length : Nat) ((P.length + w.size : Nat) : Int)) r) : ∀ (d j : Nat), j + d = w.size → Ev (fun k => graftageref56_Split.l0 k s x (P.length : Nat) ((P.length + j : Nat) : Int)) r := by
  have hz : s.size = P.length + (w.size + T.length) := by rw [← Bs_size, h]; simp [Bs_size]
  intro d
  induction d with
  | zero =>
    intro j hj
    obtain rfl : j = w.size := by omega
    exact hr
  | succ d ih =>
    intro j hj
    have hlt : P.length + j < s.size := by omega
    have hb := bt_at hlt
    have hj2 : j < (Bs w).length := by rw [Bs_size]; omega
    have hne : bt s ((P.length + j : Nat) : Int) ≠ 32 := by
      rw [hb]
      have e : (Bs s)[P.length + j]'(by rw [Bs_size]; exact hlt) = (Bs w)[j] := by
        simp only [h]
        rw [List.getElem_append_right (by omega), List.getElem_append_left (by rw [Bs_size]; omega)]
        congr 1; omega
      rw [e]
      intro h2
      have h3 : (Bs w)[j].toNat = 32 := by exact_mod_cast h2
      exact hw (by rw [← show (Bs w)[j] = 32 from UInt8.toNat_inj.1 h3]; exact List.getElem_mem _)
    refine Ev.succ (Ev.congr (fun k => ?_) (ih (j + 1) (by omega)))
    rw [graftageref56_Split.l0, if_pos (by omega), if_neg (by omega), if_pos (by omega), if_pos (by omega), if_neg hne, wrap64_id (by omega) (by omega)]
    rfl
theorem split_l0 (s : ByteArray) (hs : s.size ≤ 1000000000) : ∀ (ws : List ByteArray) (P : List UInt8) (x : List ByteArray), ws ≠ [] → (∀ w ∈ ws, NoSp w) → Bs s = P ++ Lib.join (ws.map Bs) [32] → x.length ≤ P.length →
    Ev (fun k => graftageref56_Split.l0 k s x (P.length : Nat) (P.length : Nat)) (x ++ ws)
  | [], _, _, h, _, _, _ => absurd rfl h
  | [w], P, x, _, hn, h, hx => by
    have h2 : Bs s = P ++ (Bs w ++ []) := by rw [h, List.append_nil, List.map_cons, List.map_nil, Lib.join_one]
    have hz : s.size = P.length + w.size := by rw [← Bs_size, h2]; simp [Bs_size]
    refine split_run s hs w (hn w (by simp)) P [] h2 x _ ?_ w.size 0 (by omega)
    have w1 : wrap64 (((P.length + w.size : Nat) : Int) + 1) = ((P.length + w.size + 1 : Nat) : Int) := by rw [wrap64_id (by omega) (by omega)]; rfl
    refine Ev.succ (Ev.succ (Ev.of fun k => ?_))
    rw [graftageref56_Split.l0, if_pos (by omega), if_pos (by omega), if_pos (by omega), if_pos (by omega), if_pos (by omega), w1, graftageref56_Split.l0, if_neg (by omega), Int.toNat_natCast, Int.toNat_natCast, ext_mid h2]
  | w :: w2 :: r, P, x, _, hn, h, hx => by
    have h2 : Bs s = P ++ (Bs w ++ 32 :: Lib.join ((w2 :: r).map Bs) [32]) := by rw [h, List.map_cons, List.map_cons, join_two]
    have hz : s.size = P.length + (w.size + ((Lib.join ((w2 :: r).map Bs) [32]).length + 1)) := by rw [← Bs_size, h2]; simp [Bs_size]
    have h3 : Bs s = (P ++ Bs w) ++ 32 :: Lib.join ((w2 :: r).map Bs) [32] := by rw [h2]; simp
    obtain ⟨b, _⟩ := bt_app h3
    have e1 : (P ++ Bs w).length = P.length + w.size := by rw [List.length_append, Bs_size]
    rw [e1] at b
    have ih := split_l0 s hs (w2 :: r) (P ++ Bs w ++ [32]) (x ++ [w]) (by simp) (fun y hy => hn y (by simp at hy ⊢; exact Or.inr hy)) (by rw [h3]; simp) (by simp; omega)
    have e2 : (P ++ Bs w ++ [(32 : UInt8)]).length = P.length + w.size + 1 := by rw [List.length_append, e1]; rfl
    rw [e2] at ih
    refine split_run s hs w (hn w (by simp)) P _ h2 x _ ?_ w.size 0 (by omega)
    have w1 : wrap64 (((P.length + w.size : Nat) : Int) + 1) = ((P.length + w.size + 1 : Nat) : Int) := by rw [wrap64_id (by omega) (by omega)]; rfl
    rw [List.append_assoc] at ih
    refine Ev.succ (Ev.congr (fun k => ?_) ih)
    rw [graftageref56_Split.l0, if_pos (by omega), if_neg (by omega), if_pos (by omega), if_pos (by omega), if_pos (by rw [b]; rfl), if_pos (by omega), if_pos (by omega), if_pos (by omega), w1, Int.toNat_natCast, Int.toNat_natCast, ext_mid h2]
theorem split_ev (s : ByteArray) (hs : s.size ≤ 1000000000) (ws : List ByteArray) (h0 : ws ≠ []) (hn : ∀ w ∈ ws, NoSp w) (h : s = joinQ ws) : Ev (fun k => graftageref56_Split.f k s) ws := by
  have := split_l0 s hs ws [] [] h0 hn (by rw [h, Bs_join]; rfl) (Nat.le_refl _)
  exact Ev.congr (fun k => rfl) this
theorem splitB_words : ∀ (k : Nat) (s : ByteArray), Lib.countB s sepS = k → (∀ w ∈ Lib.splitB sepS 0 k s, NoSp w) ∧ Lib.join ((Lib.splitB sepS 0 k s).map Bs) [32] = Bs s ∧ Lib.splitB sepS 0 k s ≠ []
  | k, s, hk => by
    have hidx : Lib.indexB s sepS = Lib.indexByte (Bs s) 32 := Lib.index_one _ _
    rcases Lib.indexB_cases s sepS with h | ⟨i, h, hi⟩
    · rw [Lib.splitB_miss sepS 0 k s h]
      refine ⟨fun w hw => ?_, by simp [Lib.join_one], by simp⟩
      rw [List.mem_singleton.1 hw]
      intro hm
      obtain ⟨j, hj, e⟩ := List.getElem_of_mem hm
      exact Lib.indexByte_none (hidx ▸ h) j (by rw [List.getElem?_eq_getElem hj, e])
    · have hc := Lib.countB_hit s sepS i (by decide) h
      obtain ⟨k', rfl⟩ : ∃ k', k = k' + 1 := ⟨k - 1, by omega⟩
      obtain ⟨i1, i2, i3⟩ := splitB_words k' (s.extract (i + sepS.size) s.size) (by omega)
      rw [Lib.splitB_hit sepS 0 k' s i h]
      obtain ⟨h1, h2⟩ := Lib.indexByte_some (hidx ▸ h)
      have hlt : i < (Bs s).length := (List.getElem?_eq_some_iff.1 h1).1
      have e1 : Bs (s.extract 0 (i + 0)) = (Bs s).take i := by
        unfold Bs; rw [Lib.extract_data]; simp
      have e2 : Bs (s.extract (i + sepS.size) s.size) = (Bs s).drop (i + 1) := by
        unfold Bs
        rw [Lib.extract_data, show sepS.size = 1 from rfl, List.take_of_length_le (by rw [List.length_drop, data_length]; omega)]
      refine ⟨fun w hw => ?_, ?_, by simp⟩
      · rcases List.mem_cons.1 hw with rfl | hw
        · intro hm
          rw [e1] at hm
          obtain ⟨j, hj, e⟩ := List.getElem_of_mem hm
          rw [List.length_take] at hj
          rw [List.getElem_take] at e
          exact h2 j (by omega) (by rw [List.getElem?_eq_getElem (by omega), e])
        · exact i1 w hw
      · cases hl : Lib.splitB sepS 0 k' (s.extract (i + sepS.size) s.size) with
        | nil => exact absurd hl i3
        | cons y r =>
          rw [hl] at i2
          rw [List.map_cons, List.map_cons, join_two, ← List.map_cons, i2, e1, e2]
          have := List.drop_eq_getElem_cons hlt
          have h32 : (Bs s)[i] = 32 := (List.getElem?_eq_some_iff.1 h1).2
          rw [h32] at this
          rw [← this, List.take_append_drop]
theorem splitQ_words (s : ByteArray) : splitQ s ≠ [] ∧ (∀ w ∈ splitQ s, NoSp w) ∧ joinQ (splitQ s) = s := by
  obtain ⟨h1, h2, h3⟩ := splitB_words _ s rfl
  exact ⟨h3, h1, Bs_inj (by rw [Bs_join]; exact h2)⟩
theorem splitQ_ev (s : ByteArray) (hs : s.size ≤ 1000000000) : Ev (fun k => graftageref56_Split.f k s) (splitQ s) :=
  split_ev s hs _ (splitQ_words s).1 (splitQ_words s).2.1 (splitQ_words s).2.2.symm
end Go.Proofs.YtcmemgahgenpdaaDoor.Pure
end
section
namespace Go.Proofs.YtcmemgahgenpdaaDoor.PSc
open Go.Proofs.YtcmemgahgenpdaaDoor.Hand Go.RowKit Go.Proofs.YtcmemgahgenpdaaDoorW.PrintWords Go.Proofs.YtcmemgahgenpdaaDoorW.PrintLast Go.Proofs.YtcmemgahgenpdaaDoorW.PrintMore
attribute [local go_sem] max2_int min2_int max_two min_two max_three min_three max_four min_four
set_option linter.unusedVariables false
set_option linter.unusedSimpArgs false
mutual
def graftageref56_Unword.l0 : Nat → ByteArray → List Int → Int → Option (ByteArray × Bool)
 | 0, _, _, _ => none
 | k + 1, x0, x4, x5 => if x5 < (x0.size : Int) then (if 0 ≤ x5 then (if (bt x0 x5) = 37 then (if (wrap64 (x5 + 2)) ≥ (x0.size : Int) then (graftageref56_Unword.j1 k x0 x4 x5 true) else (if 0 ≤ (wrap64 (x5 + 1)) then (if (wrap64 (x5 + 1)) < (x0.size : Int) then ((graftageref02_Digit.f k (bt x0 (wrap64 (x5 + 1)))).bind fun t308 => (if t308 < 0 then (graftageref56_Unword.j1 k x0 x4 x5 true) else (if 0 ≤ (wrap64 (x5 + 2)) then (if (wrap64 (x5 + 2)) < (x0.size : Int) then ((graftageref02_Digit.f k (bt x0 (wrap64 (x5 + 2)))).bind fun t309 => (graftageref56_Unword.j1 k x0 x4 x5 (decide (t309 < 0)))) else (none)) else (none)))) else (none)) else (none))) else (if x4.length < 140737488355328 then (graftageref56_Unword.l0 k x0 (x4 ++ [bt x0 x5]) (wrap64 (x5 + 1))) else (none))) else (none)) else (if (x4.length : Int) = 0 then (some ((⟨#[]⟩ : ByteArray), false)) else ((graftageref56_Word.f k (strOfNums x4)).bind fun t304 => (if t304.toList = x0.toList then (some (strOfNums x4, true)) else (some ((⟨#[]⟩ : ByteArray), false)))))
def graftageref56_Unword.j1 : Nat → ByteArray → List Int → Int → Bool → Option (ByteArray × Bool)
 | 0, _, _, _, _ => none
 | k + 1, x0, x4, x5, x45 => if x45 = true then (some ((⟨#[]⟩ : ByteArray), false)) else (if 0 ≤ (wrap64 (x5 + 1)) then (if (wrap64 (x5 + 1)) < (x0.size : Int) then ((graftageref02_Digit.f k (bt x0 (wrap64 (x5 + 1)))).bind fun t310 => (if 0 ≤ (wrap64 (x5 + 2)) then (if (wrap64 (x5 + 2)) < (x0.size : Int) then ((graftageref02_Digit.f k (bt x0 (wrap64 (x5 + 2)))).bind fun t311 => (if x4.length < 140737488355328 then (graftageref56_Unword.l0 k x0 (x4 ++ [(wrap64 ((wrap64 (16 * t310)) + t311)) % 256]) (wrap64 ((wrap64 (x5 + 2)) + 1))) else (none))) else (none)) else (none))) else (none)) else (none))
end
def graftageref56_Unword.f (k : Nat) (a0 : ByteArray) : Option (ByteArray × Bool) := if a0.toList = ([45] : List UInt8) then (some ((⟨#[]⟩ : ByteArray), true)) else (graftageref56_Unword.l0 k a0 (([] : List Int)) 0)
def graftageref56_Unword.T11 : Bool × List (List Nat × List Nat) := (true, [([], []), ([], []), ([], []), ([2], [2]), ([1, 3], [1, 3]), ([4], [4]), ([5], [5]), ([], []), ([], []), ([8], [8]), ([7, 9], [7, 9]), ([10, 5], [10]), ([6, 11], [6, 11]), ([12], [12]), ([13], [13]), ([0, 14, 11], [0, 14]), ([15, 15, 0, 1, 2, 3, 4, 5, 6, 7, 8, 9, 10, 11, 12, 13, 14, 15], [0, 15])])
def graftageref56_Unword.B11 : List Nat := [0, 0, 0, 4, 14, 30, 62, 0, 0, 256, 896, 1982, 4094, 8190, 16382, 32767, 65535]
theorem graftageref56_Unword.tab11 : rtab .any (opsOf Tryd.f34 11) = graftageref56_Unword.T11 := by kernel_rfl
theorem graftageref56_Unword.bits11 : waitsOk graftageref56_Unword.T11.2 graftageref56_Unword.B11 = true := by kernel_rfl
set_option maxHeartbeats 8000000 in
set_option maxRecDepth 100000 in
theorem graftageref56_Unword.calls (k : Nat) (a0 : ByteArray) (r1 : ByteArray) (r2 : Bool) (w : World) (h : graftageref56_Unword.f k a0 = some (r1, r2)) :
  Calls Tryd.prog 34 #[.string a0] w fun e w' => e = .returned (.tuple #[.string r1, .bool r2]) ∧ Below w.heap.size w w' := by
 have HB := Aside0.mk (Below.refl w.heap.size w)
 have H : (if a0.toList = ([45] : List UInt8) then (some ((⟨#[]⟩ : ByteArray), true)) else (graftageref56_Unword.l0 k a0 (([] : List Int)) 0)) = some (r1, r2) := h
 clear h
 by_cases c2 : a0.toList = ([45] : List UInt8)
 ·rw [if_pos c2] at H
  have c2b0 : (a0.toList == ([45] : List UInt8)) = true := beq_iff_eq.mpr c2
  have c2b1 : (a0.toList != ([45] : List UInt8)) = false := bne_eq_false_iff_eq.mpr c2
  clear c2
  simp only [Option.some.injEq, Prod.mk.injEq] at H
  obtain ⟨rfl, rfl⟩ := H
  go_enter Tryd.func34, Tryd.ntmps34
  go_wp2
  go_ret2
  exact ⟨by first | rfl | (simp [errW_none, errW_some] <;> rfl) | (simp [*, errW_none, errW_some] <;> rfl), by repeat (first | (with_reducible first | exact HB.out | apply below_alloc | apply pw_below_drewN | apply below_drew1) | exact HB.out)⟩
 ·rw [if_neg c2] at H
  have c2b0 : (a0.toList == ([45] : List UInt8)) = false := beq_eq_false_iff_ne.mpr c2
  have c2b1 : (a0.toList != ([45] : List UInt8)) = true := bne_iff_ne.mpr c2
  obtain ⟨y301, hy301⟩ : ∃ y_ : List Int, y_ = (([] : List Int)) := ⟨_, rfl⟩
  replace H : (graftageref56_Unword.l0 k a0 y301 0) = some (r1, r2) := by first | (rw [hy301]; with_reducible exact H) | (have H2_ := (Option.bind_some _ _).symm.trans H; rw [hy301]; with_reducible exact H2_) | (have H2_ := (Option.bind_some _ _).symm.trans H; with_reducible exact H2_) | with_reducible exact H | (rw [hy301]; exact H) | exact H
  have Ny301 := Aside0.mk hy301
  clear hy301
  have H' := Aside0.mk H
  clear H
  go_enter Tryd.func34, Tryd.ntmps34
  go_wp2_with (first | ((with_reducible refine gate_dst (N := 8) rfl ?_); refine Kd.R_lit (Kd.int .u8) _ 5 ?hg (N := 8) ?hd (xs := ([] : List Int)) (inner := []) (ok := fun _ => True) (okp := fun _ => True) ?hr ?hp (fun _ hk => hk) trivial (Below.refl _ _) (Nat.le_refl _) (by simp) ?_; (case hd => rfl); (case hg => rfl); (case hr => first | (go_simp; done) | (go_simp; rfl)); (case hp => exact (Reps.none _ _)); intro v302 w3 ho4 hb hg_ hnew_; clear hg_ hnew_; (first | rw [← Ny301.out] at ho4 | (simp only [Int.reduceToNat] at ho4; rw [← Ny301.out] at ho4)); have n0_ := Aside0.mk (Kd.R_lower ho4 (below_size (by repeat (first | (with_reducible first | exact HB.out | apply below_alloc | apply pw_below_drewN | apply below_drew1) | exact HB.out)))); have n1_ := Aside0.mk (below_step (by repeat (first | (with_reducible first | exact HB.out | apply below_alloc | apply pw_below_drewN | apply below_drew1) | exact HB.out)) hb); clear HB; have HO303 := n0_; have HB := n1_; clear n0_ n1_; clear hb ho4))
  go_loopg [4, 5] k (fun kq v4 v5 w' => ∃ (x4_1 : List Int) (x5_1 : Int), v5 = .int .i64 x5_1 ∧ Aside0 (graftageref56_Unword.l0 kq a0 x4_1 x5_1 = some (r1, r2)) ∧ Aside0 (kq ≤ k) ∧ Aside0 (Kd.R (Kd.int .u8) 5 w' w.heap.size (fun _ => True) v4 x4_1) ∧ Aside0 (Below w.heap.size w w'))
  case atStart => exact ⟨(y301), (0), (by first | rfl | (simp; done) | (simp [*]; done)), H', ⟨Nat.le_refl _⟩, ⟨by (with_reducible repeat (first | apply Kd.R_alloc | apply Kd.R_drewN | apply Kd.R_drew)); exact HO303.out⟩, ⟨by repeat (first | (with_reducible first | exact HB.out | apply below_alloc | apply pw_below_drewN | apply below_drew1) | exact HB.out)⟩⟩
  case round =>
   clear H'
   try clear c2
   try clear c2b0
   try clear c2b1
   try clear p2
   try clear c3
   obtain ⟨x4_1, x5_1, rfl, HA, HK1, HO_4, HB⟩ := hrel
   cases gk with
   | zero => exact absurd HA.out (by simp [graftageref56_Unword.l0])
   | succ k1 =>
    have H := HA.out
    clear HA
    simp only [graftageref56_Unword.l0] at H
    by_cases c5 : x5_1 < (a0.size : Int)
    ·rw [if_pos c5] at H
     have c5b0 : decide (x5_1 < (a0.size : Int)) = true := decide_eq_true c5
     clear c5
     by_cases c6 : 0 ≤ x5_1
     ·rw [if_pos c6] at H
      have c6b0 : decide (0 ≤ x5_1) = true := decide_eq_true c6
      clear c6
      by_cases c8 : (bt a0 x5_1) = 37
      ·rw [if_pos c8] at H
       have c8b0 : ((bt a0 x5_1) == 37) = true := beq_iff_eq.mpr c8
       have c8b1 : ((bt a0 x5_1) != 37) = false := bne_eq_false_iff_eq.mpr c8
       clear c8
       have HC9 := Aside0.mk H
       clear H
       have p7 : 0 ≤ (x5_1 : Int) := of_decide_eq_true (by first | (with_reducible assumption) | assumption)
       have q7 : x5_1 < (a0.size : Int) := of_decide_eq_true (by first | (with_reducible assumption) | assumption)
       have hx7 := bt_at a0 x5_1
       replace p7 := eq_true p7
       replace q7 := eq_true q7
       go_upto_region 9 with (fail)
       go_cut [45] (fun v45 wc => ∃ (kq : Nat) (x45_8 : Bool), v45 = .bool x45_8 ∧ Aside0 (graftageref56_Unword.j1 kq a0 x4_1 x5_1 x45_8 = some (r1, r2)) ∧ Aside0 (kq ≤ k1) ∧ Aside0 (Kd.R (Kd.int .u8) 5 wc w.heap.size (fun _ => True) u4 x4_1) ∧ Aside0 (Below w.heap.size w wc))
       case first =>
        have H := HC9.out
        clear HC9
        by_cases c10 : (wrap64 (x5_1 + 2)) ≥ (a0.size : Int)
        ·rw [if_pos c10] at H
         have c10b0 : decide ((a0.size : Int) ≤ (wrap64 (x5_1 + 2))) = true := decide_eq_true c10
         clear c10
         (first | rw [c10b0] | (simp only [i64_w, i32_w]; rw [c10b0]) | skip)
         have H' := Aside0.mk H
         clear H
         go_wp2
         go_meet
         case rel => exact ⟨_, (true), (by first | rfl | (simp; done) | (simp [*]; done)), H', ⟨by have := HK1.out; first | omega | exact Nat.le_refl _⟩, ⟨by (with_reducible repeat (first | apply Kd.R_alloc | apply Kd.R_drewN | apply Kd.R_drew)); exact HO_4.out⟩, ⟨by repeat (first | (with_reducible first | exact HB.out | apply below_alloc | apply pw_below_drewN | apply below_drew1) | exact HB.out)⟩⟩
        ·rw [if_neg c10] at H
         have c10b0 : decide ((a0.size : Int) ≤ (wrap64 (x5_1 + 2))) = false := decide_eq_false c10
         clear c10
         (first | rw [c10b0] | (simp only [i64_w, i32_w]; rw [c10b0]) | skip)
         obtain ⟨ji11, hji11⟩ : ∃ j_ : Int, (wrap64 (x5_1 + 1)) = j_ := ⟨_, rfl⟩
         replace H : (if 0 ≤ (ji11) then (if (ji11) < (a0.size : Int) then ((graftageref02_Digit.f k1 (bt a0 (ji11))).bind fun t308 => (if t308 < 0 then (graftageref56_Unword.j1 k1 a0 x4_1 x5_1 true) else (if 0 ≤ (wrap64 (x5_1 + 2)) then (if (wrap64 (x5_1 + 2)) < (a0.size : Int) then ((graftageref02_Digit.f k1 (bt a0 (wrap64 (x5_1 + 2)))).bind fun t309 => (graftageref56_Unword.j1 k1 a0 x4_1 x5_1 (decide (t309 < 0)))) else (none)) else (none)))) else (none)) else (none)) = some (r1, r2) := by first | (rw [hji11] at H; exact H) | (simp only [hji11] at H ⊢; exact H)
         have hji11w : (IntKind.i64.wrap (x5_1 + 1)) = ji11 := (i64_w _).trans hji11
         by_cases c12 : 0 ≤ (ji11)
         ·rw [if_pos c12] at H
          have c12b0 : decide (0 ≤ (ji11)) = true := decide_eq_true c12
          clear c12
          by_cases c13 : (ji11) < (a0.size : Int)
          ·rw [if_pos c13] at H
           have c13b0 : decide ((ji11) < (a0.size : Int)) = true := decide_eq_true c13
           clear c13
           replace H := Option.bind_eq_some_iff.mp H
           obtain ⟨t308, A150, H⟩ := H
           replace H : (if t308 < 0 then (graftageref56_Unword.j1 k1 a0 x4_1 x5_1 true) else (if 0 ≤ (wrap64 (x5_1 + 2)) then (if (wrap64 (x5_1 + 2)) < (a0.size : Int) then ((graftageref02_Digit.f k1 (bt a0 (wrap64 (x5_1 + 2)))).bind fun t309 => (graftageref56_Unword.j1 k1 a0 x4_1 x5_1 (decide (t309 < 0)))) else (none)) else (none))) = some (r1, r2) := H
           have A15 := Aside0.mk A150
           clear A150
           by_cases c16 : t308 < 0
           ·rw [if_pos c16] at H
            have c16b0 : decide (t308 < 0) = true := decide_eq_true c16
            clear c16
            have H' := Aside0.mk H
            clear H
            have p14 : 0 ≤ ((ji11) : Int) := of_decide_eq_true (by first | (with_reducible assumption) | assumption)
            have q14 : (ji11) < (a0.size : Int) := of_decide_eq_true (by first | (with_reducible assumption) | assumption)
            have hx14 := bt_at a0 (ji11)
            replace p14 := eq_true p14
            replace q14 := eq_true q14
            go_wp2_with (first | (go_at_call 49; (with_reducible refine (graftageref02_Digit.calls k1 (bt a0 (ji11)) t308 _ A15.out).mono ?_); rintro e w' ⟨rfl, ⟨nd, rfl⟩⟩))
            go_meet
            case rel => exact ⟨_, (true), (by first | rfl | (simp; done) | (simp [*]; done)), H', ⟨by have := HK1.out; first | omega | exact Nat.le_refl _⟩, ⟨by (with_reducible repeat (first | apply Kd.R_alloc | apply Kd.R_drewN | apply Kd.R_drew)); exact HO_4.out⟩, ⟨by repeat (first | (with_reducible first | exact HB.out | apply below_alloc | apply pw_below_drewN | apply below_drew1) | exact HB.out)⟩⟩
           ·rw [if_neg c16] at H
            have c16b0 : decide (t308 < 0) = false := decide_eq_false c16
            clear c16
            obtain ⟨ji17, hji17⟩ : ∃ j_ : Int, (wrap64 (x5_1 + 2)) = j_ := ⟨_, rfl⟩
            replace H : (if 0 ≤ (ji17) then (if (ji17) < (a0.size : Int) then ((graftageref02_Digit.f k1 (bt a0 (ji17))).bind fun t309 => (graftageref56_Unword.j1 k1 a0 x4_1 x5_1 (decide (t309 < 0)))) else (none)) else (none)) = some (r1, r2) := by first | (rw [hji17] at H; exact H) | (simp only [hji17] at H ⊢; exact H)
            (try rw [hji17] at c10b0)
            (try rw [hji17] at A15)
            have hji17w : (IntKind.i64.wrap (x5_1 + 2)) = ji17 := (i64_w _).trans hji17
            by_cases c18 : 0 ≤ (ji17)
            ·rw [if_pos c18] at H
             have c18b0 : decide (0 ≤ (ji17)) = true := decide_eq_true c18
             clear c18
             by_cases c19 : (ji17) < (a0.size : Int)
             ·rw [if_pos c19] at H
              have c19b0 : decide ((ji17) < (a0.size : Int)) = true := decide_eq_true c19
              clear c19
              replace H := Option.bind_eq_some_iff.mp H
              obtain ⟨t309, A210, H⟩ := H
              replace H : (graftageref56_Unword.j1 k1 a0 x4_1 x5_1 (decide (t309 < 0))) = some (r1, r2) := H
              have A21 := Aside0.mk A210
              clear A210
              have H' := Aside0.mk H
              clear H
              have p14 : 0 ≤ ((ji11) : Int) := of_decide_eq_true (by first | (with_reducible assumption) | assumption)
              have q14 : (ji11) < (a0.size : Int) := of_decide_eq_true (by first | (with_reducible assumption) | assumption)
              have hx14 := bt_at a0 (ji11)
              replace p14 := eq_true p14
              replace q14 := eq_true q14
              go_wp2_with (first | (go_at_call 49; (with_reducible refine (graftageref02_Digit.calls k1 (bt a0 (ji11)) t308 _ A15.out).mono ?_); rintro e w' ⟨rfl, ⟨nd, rfl⟩⟩; have p20 : 0 ≤ ((ji17) : Int) := of_decide_eq_true (by first | (with_reducible assumption) | assumption); have q20 : (ji17) < (a0.size : Int) := of_decide_eq_true (by first | (with_reducible assumption) | assumption); have hx20 := bt_at a0 (ji17); replace p20 := eq_true p20; replace q20 := eq_true q20) | (go_at_call 49; (with_reducible refine (graftageref02_Digit.calls k1 (bt a0 (ji17)) t309 _ A21.out).mono ?_); rintro e w' ⟨rfl, ⟨nd, rfl⟩⟩))
              go_meet
              case rel => exact ⟨_, (decide (t309 < 0)), (by first | rfl | (simp; done) | (simp [*]; done)), H', ⟨by have := HK1.out; first | omega | exact Nat.le_refl _⟩, ⟨by (with_reducible repeat (first | apply Kd.R_alloc | apply Kd.R_drewN | apply Kd.R_drew)); exact HO_4.out⟩, ⟨by repeat (first | (with_reducible first | exact HB.out | apply below_alloc | apply pw_below_drewN | apply below_drew1) | exact HB.out)⟩⟩
             ·rw [if_neg c19] at H
              exact absurd H (by simp)
            ·rw [if_neg c18] at H
             exact absurd H (by simp)
          ·rw [if_neg c13] at H
           exact absurd H (by simp)
         ·rw [if_neg c12] at H
          exact absurd H (by simp)
       case rest =>
        clear HC9
        try clear c1
        try clear p1
        try clear q1
        try clear hx1
        try clear c2
        try clear c2b0
        try clear c2b1
        try clear p2
        try clear q2
        try clear hx2
        try clear c3
        try clear c5
        try clear c5b0
        try clear c6
        try clear c6b0
        try clear p6
        try clear p7
        try clear q7
        try clear hx7
        try clear c8
        try clear c8b0
        try clear c8b1
        try clear c10
        try clear c10b0
        try clear c12
        try clear c12b0
        try clear c13
        try clear c13b0
        try clear p14
        try clear q14
        try clear hx14
        try clear c16
        try clear c16b0
        try clear c18
        try clear c18b0
        try clear c19
        try clear c19b0
        try clear p20
        try clear q20
        try clear hx20
        try clear p14
        try clear p2
        try clear p20
        try clear p7
        try clear q14
        try clear q20
        try clear q7
        obtain ⟨kq, x45_8, rfl, HA, HJ8, HO_4, HB⟩ := hcut
        cases kq with
        | zero => exact absurd HA.out (by simp [graftageref56_Unword.j1])
        | succ kj8 =>
         have H := HA.out
         clear HA
         simp only [graftageref56_Unword.j1] at H
         by_cases c22 : x45_8 = true
         ·subst c22
          have H1 : (some ((⟨#[]⟩ : ByteArray), false)) = some (r1, r2) := by rw [if_pos rfl] at H; exact H
          clear H
          have H := H1
          clear H1
          simp only [Option.some.injEq, Prod.mk.injEq] at H
          obtain ⟨rfl, rfl⟩ := H
          go_wp2
          go_ret2
          exact ⟨by first | rfl | (simp [errW_none, errW_some] <;> rfl) | (simp [*, errW_none, errW_some] <;> rfl), by repeat (first | (with_reducible first | exact HB.out | apply below_alloc | apply pw_below_drewN | apply below_drew1) | exact HB.out)⟩
         ·replace c22 := Bool.eq_false_iff.mpr c22
          subst c22
          have H1 : (if 0 ≤ (wrap64 (x5_1 + 1)) then (if (wrap64 (x5_1 + 1)) < (a0.size : Int) then ((graftageref02_Digit.f kj8 (bt a0 (wrap64 (x5_1 + 1)))).bind fun t310 => (if 0 ≤ (wrap64 (x5_1 + 2)) then (if (wrap64 (x5_1 + 2)) < (a0.size : Int) then ((graftageref02_Digit.f kj8 (bt a0 (wrap64 (x5_1 + 2)))).bind fun t311 => (if x4_1.length < 140737488355328 then (graftageref56_Unword.l0 kj8 a0 (x4_1 ++ [(wrap64 ((wrap64 (16 * t310)) + t311)) % 256]) (wrap64 ((wrap64 (x5_1 + 2)) + 1))) else (none))) else (none)) else (none))) else (none)) else (none)) = some (r1, r2) := by rw [if_neg (show ¬ (false = true) by decide)] at H; exact H
          clear H
          have H := H1
          clear H1
          obtain ⟨ji23, hji23⟩ : ∃ j_ : Int, (wrap64 (x5_1 + 1)) = j_ := ⟨_, rfl⟩
          replace H : (if 0 ≤ (ji23) then (if (ji23) < (a0.size : Int) then ((graftageref02_Digit.f kj8 (bt a0 (ji23))).bind fun t310 => (if 0 ≤ (wrap64 (x5_1 + 2)) then (if (wrap64 (x5_1 + 2)) < (a0.size : Int) then ((graftageref02_Digit.f kj8 (bt a0 (wrap64 (x5_1 + 2)))).bind fun t311 => (if x4_1.length < 140737488355328 then (graftageref56_Unword.l0 kj8 a0 (x4_1 ++ [(wrap64 ((wrap64 (16 * t310)) + t311)) % 256]) (wrap64 ((wrap64 (x5_1 + 2)) + 1))) else (none))) else (none)) else (none))) else (none)) else (none)) = some (r1, r2) := by first | (rw [hji23] at H; exact H) | (simp only [hji23] at H ⊢; exact H)
          have hji23w : (IntKind.i64.wrap (x5_1 + 1)) = ji23 := (i64_w _).trans hji23
          by_cases c24 : 0 ≤ (ji23)
          ·rw [if_pos c24] at H
           have c24b0 : decide (0 ≤ (ji23)) = true := decide_eq_true c24
           clear c24
           by_cases c25 : (ji23) < (a0.size : Int)
           ·rw [if_pos c25] at H
            have c25b0 : decide ((ji23) < (a0.size : Int)) = true := decide_eq_true c25
            clear c25
            replace H := Option.bind_eq_some_iff.mp H
            obtain ⟨t310, A270, H⟩ := H
            replace H : (if 0 ≤ (wrap64 (x5_1 + 2)) then (if (wrap64 (x5_1 + 2)) < (a0.size : Int) then ((graftageref02_Digit.f kj8 (bt a0 (wrap64 (x5_1 + 2)))).bind fun t311 => (if x4_1.length < 140737488355328 then (graftageref56_Unword.l0 kj8 a0 (x4_1 ++ [(wrap64 ((wrap64 (16 * t310)) + t311)) % 256]) (wrap64 ((wrap64 (x5_1 + 2)) + 1))) else (none))) else (none)) else (none)) = some (r1, r2) := H
            have A27 := Aside0.mk A270
            clear A270
            obtain ⟨ji28, hji28⟩ : ∃ j_ : Int, (wrap64 (x5_1 + 2)) = j_ := ⟨_, rfl⟩
            replace H : (if 0 ≤ (ji28) then (if (ji28) < (a0.size : Int) then ((graftageref02_Digit.f kj8 (bt a0 (ji28))).bind fun t311 => (if x4_1.length < 140737488355328 then (graftageref56_Unword.l0 kj8 a0 (x4_1 ++ [(wrap64 ((wrap64 (16 * t310)) + t311)) % 256]) (wrap64 ((ji28) + 1))) else (none))) else (none)) else (none)) = some (r1, r2) := by first | (rw [hji28] at H; exact H) | (simp only [hji28] at H ⊢; exact H)
            (try rw [hji28] at A27)
            have hji28w : (IntKind.i64.wrap (x5_1 + 2)) = ji28 := (i64_w _).trans hji28
            by_cases c29 : 0 ≤ (ji28)
            ·rw [if_pos c29] at H
             have c29b0 : decide (0 ≤ (ji28)) = true := decide_eq_true c29
             clear c29
             by_cases c30 : (ji28) < (a0.size : Int)
             ·rw [if_pos c30] at H
              have c30b0 : decide ((ji28) < (a0.size : Int)) = true := decide_eq_true c30
              clear c30
              replace H := Option.bind_eq_some_iff.mp H
              obtain ⟨t311, A320, H⟩ := H
              replace H : (if x4_1.length < 140737488355328 then (graftageref56_Unword.l0 kj8 a0 (x4_1 ++ [(wrap64 ((wrap64 (16 * t310)) + t311)) % 256]) (wrap64 ((ji28) + 1))) else (none)) = some (r1, r2) := H
              have A32 := Aside0.mk A320
              clear A320
              by_cases c33 : x4_1.length < 140737488355328
              ·rw [if_pos c33] at H
               have LMc33 := Aside0.mk c33
               clear c33
               obtain ⟨y312, hy312⟩ : ∃ y_ : List Int, y_ = (x4_1 ++ [(wrap64 ((wrap64 (16 * t310)) + t311)) % 256]) := ⟨_, rfl⟩
               replace H : (graftageref56_Unword.l0 kj8 a0 y312 (wrap64 ((ji28) + 1))) = some (r1, r2) := by first | (rw [hy312]; with_reducible exact H) | (have H2_ := (Option.bind_some _ _).symm.trans H; rw [hy312]; with_reducible exact H2_) | (have H2_ := (Option.bind_some _ _).symm.trans H; with_reducible exact H2_) | with_reducible exact H | (rw [hy312]; exact H) | exact H
               have Ny312 := Aside0.mk hy312
               clear hy312
               have H' := Aside0.mk H
               clear H
               try go_wp2
               have n0_ := Aside0.mk (Kd.R_drew HO_4.out)
               have n1_ := Aside0.mk (below_drew1 HB.out)
               clear HO_4
               clear HB
               have HO_4 := n0_
               have HB := n1_
               clear n0_ n1_
               have p26 : 0 ≤ ((ji23) : Int) := of_decide_eq_true (by first | (with_reducible assumption) | assumption)
               have q26 : (ji23) < (a0.size : Int) := of_decide_eq_true (by first | (with_reducible assumption) | assumption)
               have hx26 := bt_at a0 (ji23)
               replace p26 := eq_true p26
               replace q26 := eq_true q26
               have p31 : 0 ≤ ((ji28) : Int) := of_decide_eq_true (by first | (with_reducible assumption) | assumption)
               have q31 : (ji28) < (a0.size : Int) := of_decide_eq_true (by first | (with_reducible assumption) | assumption)
               have hx31 := bt_at a0 (ji28)
               replace p31 := eq_true p31
               replace q31 := eq_true q31
               refine start_ (n := 17) (S := fun w' => True) (ds := []) #[false, false, false, false, false, false, false, false, false, false, false, false, false, false, false, false, false] (by kernel_rfl) rfl rfl trivial (fun hHeld => ?_); refine with_tabW graftageref56_Unword.tab11 graftageref56_Unword.bits11 (fun HT_ HW_ => ?_)
               generalize wc.drew = w34 at HO_4 HB hHeld ⊢
               refine pure_ (i := 0) (N := some 46) (v := ?_) (a' := ?_) #[true, false, false, false, false, false, false, false, false, false, false, false, false, false, false, false, false] rfl rfl (any_of HT_.out (by kernel_rfl)) (fun _ _ _ h => h) (Or.inl ⟨by rfl, ?_⟩) ?_ ?_
               rotate_left
               ·intro w'
                go_simp
                with_reducible rfl
               rotate_left
               ·simp only [Act.put, List.setIfInBounds_toArray, List.set_cons_zero, List.set_cons_succ, i64_w, i32_w]
                rfl
               refine pure_ (i := 1) (N := some 47) (v := ?_) (a' := ?_) #[true, true, false, false, false, false, false, false, false, false, false, false, false, false, false, false, false] rfl rfl (any_of HT_.out (by kernel_rfl)) (fun _ _ _ h => h) (Or.inl ⟨by rfl, ?_⟩) ?_ ?_
               rotate_left
               ·intro w'
                go_simp
                with_reducible rfl
               rotate_left
               ·simp only [Act.put, List.setIfInBounds_toArray, List.set_cons_zero, List.set_cons_succ, i64_w, i32_w]
                rfl
               refine pure_ (i := 2) (N := some 48) (v := ?_) (a' := ?_) #[true, true, true, false, false, false, false, false, false, false, false, false, false, false, false, false, false] rfl rfl (any_of HT_.out (by kernel_rfl)) (fun _ _ _ h => h) (Or.inl ⟨by rfl, ?_⟩) ?_ ?_
               rotate_left
               ·intro w'
                go_simp
                with_reducible rfl
               rotate_left
               ·simp only [Act.put, List.setIfInBounds_toArray, List.set_cons_zero, List.set_cons_succ, i64_w, i32_w]
                rfl
               refine pure_ (i := 3) (N := some 49) (v := ?_) (a' := ?_) #[true, true, true, true, false, false, false, false, false, false, false, false, false, false, false, false, false] rfl rfl (any_of HT_.out (by kernel_rfl)) (fun _ _ _ h => h) (Or.inl ⟨by rfl, ?_⟩) ?_ ?_
               rotate_left
               ·intro w'
                go_simp
                with_reducible rfl
               rotate_left
               ·simp only [Act.put, List.setIfInBounds_toArray, List.set_cons_zero, List.set_cons_succ, i64_w, i32_w]
                rfl
               refine pure_ (i := 7) (N := some 53) (v := ?_) (a' := ?_) #[true, true, true, true, false, false, false, true, false, false, false, false, false, false, false, false, false] rfl rfl (any_of HT_.out (by kernel_rfl)) (fun _ _ _ h => h) (Or.inl ⟨by rfl, ?_⟩) ?_ ?_
               rotate_left
               ·intro w'
                go_simp
                with_reducible rfl
               rotate_left
               ·simp only [Act.put, List.setIfInBounds_toArray, List.set_cons_zero, List.set_cons_succ, i64_w, i32_w]
                rfl
               refine pure_ (i := 8) (N := some 54) (v := ?_) (a' := ?_) #[true, true, true, true, false, false, false, true, true, false, false, false, false, false, false, false, false] rfl rfl (any_of HT_.out (by kernel_rfl)) (fun _ _ _ h => h) (Or.inl ⟨by rfl, ?_⟩) ?_ ?_
               rotate_left
               ·intro w'
                go_simp
                with_reducible rfl
               rotate_left
               ·simp only [Act.put, List.setIfInBounds_toArray, List.set_cons_zero, List.set_cons_succ, i64_w, i32_w]
                rfl
               refine pure_ (i := 9) (N := some 55) (v := ?_) (a' := ?_) #[true, true, true, true, false, false, false, true, true, true, false, false, false, false, false, false, false] rfl rfl (any_of HT_.out (by kernel_rfl)) (fun _ _ _ h => h) (Or.inl ⟨by rfl, ?_⟩) ?_ ?_
               rotate_left
               ·intro w'
                go_simp
                with_reducible rfl
               rotate_left
               ·simp only [Act.put, List.setIfInBounds_toArray, List.set_cons_zero, List.set_cons_succ, i64_w, i32_w]
                rfl
               refine take_ (i := 4) (N := some 50) (v := ?_) (a' := ?_) #[true, true, true, true, true, false, false, true, true, true, false, false, false, false, false, false, false] rfl rfl (take_ofW HT_.out HW_.out (by kernel_rfl)) (fun _ _ _ h => h) (Or.inl ⟨by rfl, ?_⟩) hHeld ?_ ?_
               rotate_left
               ·intro w' _
                go_simp
                with_reducible rfl
               rotate_left
               ·simp only [Act.put, List.setIfInBounds_toArray, List.set_cons_zero, List.set_cons_succ, i64_w, i32_w]
                rfl
               refine take_ (i := 10) (N := some 56) (v := ?_) (a' := ?_) #[true, true, true, true, true, false, false, true, true, true, true, false, false, false, false, false, false] rfl rfl (take_ofW HT_.out HW_.out (by kernel_rfl)) (fun _ _ _ h => h) (Or.inl ⟨by rfl, ?_⟩) hHeld ?_ ?_
               rotate_left
               ·intro w' _
                go_simp
                with_reducible rfl
               rotate_left
               ·simp only [Act.put, List.setIfInBounds_toArray, List.set_cons_zero, List.set_cons_succ, i64_w, i32_w]
                rfl
               refine one_ (i := 5) (N := some 51) #[true, true, true, true, true, true, false, true, true, true, true, false, false, false, false, false, false] rfl rfl (one_of HT_.out (by kernel_rfl)) (by decide) (fun K hK => ?_)
               refine goes_ Tryd.func49 (by kernel_rfl) rfl #[.int .u8 (bt a0 (ji23))] (by rfl) rfl rfl (by (try simp only [List.map_toArray, List.map_cons, List.map_nil]); first | done | (simp only [hji23]; rfl) | rfl | (simp only [List.length_drop, List.length_take]; rfl)) ?_
               with_reducible refine (graftageref02_Digit.calls kj8 (bt a0 (ji23)) t310 _ A27.out).mono ?_
               rintro e w' ⟨rfl, ⟨nd, rfl⟩⟩
               refine ⟨_, rfl, ?_⟩
               refine hK.out _ _ trivial (fun hHeld => ?_)
               clear hK K
               refine norm_ (a' := ?_) ?_ ?_
               rotate_left
               ·show Act.put _ (some 51) _ = _
                simp only [Act.put, List.setIfInBounds_toArray, List.set_cons_zero, List.set_cons_succ, i64_w, i32_w]
                rfl
               refine pure_ (i := 6) (N := some 52) (v := ?_) (a' := ?_) #[true, true, true, true, true, true, true, true, true, true, true, false, false, false, false, false, false] rfl rfl (any_of HT_.out (by kernel_rfl)) (fun _ _ _ h => h) (Or.inl ⟨by rfl, ?_⟩) ?_ ?_
               rotate_left
               ·intro w'
                go_simp
                with_reducible rfl
               rotate_left
               ·simp only [Act.put, List.setIfInBounds_toArray, List.set_cons_zero, List.set_cons_succ, i64_w, i32_w]
                rfl
               refine one_ (i := 11) (N := some 57) #[true, true, true, true, true, true, true, true, true, true, true, true, false, false, false, false, false] rfl rfl (one_of HT_.out (by kernel_rfl)) (by decide) (fun K hK => ?_)
               refine goes_ Tryd.func49 (by kernel_rfl) rfl #[.int .u8 (bt a0 (ji28))] (by rfl) rfl rfl (by (try simp only [List.map_toArray, List.map_cons, List.map_nil]); first | done | (simp only [hji28]; rfl) | rfl | (simp only [List.length_drop, List.length_take]; rfl)) ?_
               with_reducible refine (graftageref02_Digit.calls kj8 (bt a0 (ji28)) t311 _ A32.out).mono ?_
               rintro e w' ⟨rfl, ⟨nd, rfl⟩⟩
               refine ⟨_, rfl, ?_⟩
               refine hK.out _ _ trivial (fun hHeld => ?_)
               clear hK K
               refine norm_ (a' := ?_) ?_ ?_
               rotate_left
               ·show Act.put _ (some 57) _ = _
                simp only [Act.put, List.setIfInBounds_toArray, List.set_cons_zero, List.set_cons_succ, i64_w, i32_w]
                rfl
               refine pure_ (i := 12) (N := some 58) (v := ?_) (a' := ?_) #[true, true, true, true, true, true, true, true, true, true, true, true, true, false, false, false, false] rfl rfl (any_of HT_.out (by kernel_rfl)) (fun _ _ _ h => h) (Or.inl ⟨by rfl, ?_⟩) ?_ ?_
               rotate_left
               ·intro w'
                go_simp
                with_reducible rfl
               rotate_left
               ·simp only [Act.put, List.setIfInBounds_toArray, List.set_cons_zero, List.set_cons_succ, i64_w, i32_w]
                rfl
               refine pure_ (i := 13) (N := some 59) (v := ?_) (a' := ?_) #[true, true, true, true, true, true, true, true, true, true, true, true, true, true, false, false, false] rfl rfl (any_of HT_.out (by kernel_rfl)) (fun _ _ _ h => h) (Or.inl ⟨by rfl, ?_⟩) ?_ ?_
               rotate_left
               ·intro w'
                go_simp
                with_reducible rfl
               rotate_left
               ·simp only [Act.put, List.setIfInBounds_toArray, List.set_cons_zero, List.set_cons_succ, i64_w, i32_w]
                rfl
               refine one_ (i := 14) (N := some 60) #[true, true, true, true, true, true, true, true, true, true, true, true, true, true, true, false, false] rfl rfl (one_of HT_.out (by kernel_rfl)) (by decide) (fun K hK => ?_)
               refine value_ (w1 := ?_) (v := ?_) (by rfl) rfl ?_ ?_
               rotate_left 2
               ·go_simp
                constructor
                ·rfl
                ·rfl
               refine hK.out _ _ trivial (fun hHeld => ?_)
               clear hK K
               refine norm_ (a' := ?_) ?_ ?_
               rotate_left
               ·show Act.put _ (some 60) _ = _
                simp only [Act.put, List.setIfInBounds_toArray, List.set_cons_zero, List.set_cons_succ, i64_w, i32_w]
                rfl
               refine one_ (i := 15) (N := some 61) #[true, true, true, true, true, true, true, true, true, true, true, true, true, true, true, true, false] rfl rfl (one_of HT_.out (by kernel_rfl)) (by decide) (fun K hK => ?_)
               refine Kd.R_append_step (Kd.int .u8) (w0 := w) w.heap.size (by rfl) (.tmp 46) (.tmp 60) 62 5 (.int .u8 0) 1 rfl Tryd.underlying62 info5 rfl (by decide) (by omega) u4 x4_1 ((wrap64 ((wrap64 (16 * t310)) + t311)) % 256) [.int .u8 ((wrap64 ((wrap64 (16 * t310)) + t311)) % 256)] (fun _ => True) (fun _ => False) rfl rfl ?aP (fun _ hk => hk.elim) ?aF ?aO ?aB ?aS ?aL ?_
               (case aP => exact rfl)
               (case aB => exact (by repeat (first | (with_reducible first | exact HB.out | apply below_alloc | apply pw_below_drewN | apply below_drew1) | exact HB.out)))
               (case aF => exact (fun _ _ => trivial))
               (case aO => exact (by (with_reducible repeat (first | apply Kd.R_alloc | apply Kd.R_drewN | apply Kd.R_drew)); exact HO_4.out))
               (case aS => exact (below_size (by repeat (first | (with_reducible first | exact HB.out | apply below_alloc | apply pw_below_drewN | apply below_drew1) | exact HB.out))))
               (case aL => have := LMc33.out; omega)
               intro v313 w35 ho hb hg hat
               rw [← Ny312.out] at ho
               have n0_ := Aside0.mk (hb)
               have n1_ := Aside0.mk (ho)
               clear HB
               clear HO_4
               have HB := n0_
               have HO314 := n1_
               clear n0_ n1_
               clear ho hb hg hat
               refine hK.out _ _ trivial (fun hHeld => ?_)
               clear hK K
               refine norm_ (a' := ?_) ?_ ?_
               rotate_left
               ·show Act.put _ (some 61) _ = _
                simp only [Act.put, List.setIfInBounds_toArray, List.set_cons_zero, List.set_cons_succ, i64_w, i32_w]
                rfl
               refine pure_ (i := 16) (N := some 4) (v := ?_) (a' := ?_) #[true, true, true, true, true, true, true, true, true, true, true, true, true, true, true, true, true] rfl rfl (any_of HT_.out (by kernel_rfl)) (fun _ _ _ h => h) (Or.inl ⟨by rfl, ?_⟩) ?_ ?_
               rotate_left
               ·intro w'
                go_simp
                with_reducible rfl
               rotate_left
               ·simp only [Act.put, List.setIfInBounds_toArray, List.set_cons_zero, List.set_cons_succ, i64_w, i32_w]
                rfl
               refine done_ (done_of HT_.out (by kernel_rfl)) ?_
               try go_wp2
               go_roundg kj8
               case measure => have := HK1.out; have := HJ8.out; omega
               case rel => exact ⟨(y312), (wrap64 ((ji28) + 1)), (by first | rfl | (simp; done) | (simp only [← hji28] <;> (first | rfl | simp)) | (simp [*]; done)), H', ⟨by have := HK1.out; have := HJ8.out; omega⟩, ⟨by (with_reducible repeat (first | apply Kd.R_alloc | apply Kd.R_drewN | apply Kd.R_drew)); exact HO314.out⟩, ⟨by repeat (first | (with_reducible first | exact HB.out | apply below_alloc | apply pw_below_drewN | apply below_drew1) | exact HB.out)⟩⟩
              ·rw [if_neg c33] at H
               exact absurd H (by simp)
             ·rw [if_neg c30] at H
              exact absurd H (by simp)
            ·rw [if_neg c29] at H
             exact absurd H (by simp)
           ·rw [if_neg c25] at H
            exact absurd H (by simp)
          ·rw [if_neg c24] at H
           exact absurd H (by simp)
      ·rw [if_neg c8] at H
       have c8b0 : ((bt a0 x5_1) == 37) = false := beq_eq_false_iff_ne.mpr c8
       have c8b1 : ((bt a0 x5_1) != 37) = true := bne_iff_ne.mpr c8
       by_cases c37 : x4_1.length < 140737488355328
       ·rw [if_pos c37] at H
        have LMc37 := Aside0.mk c37
        clear c37
        obtain ⟨y305, hy305⟩ : ∃ y_ : List Int, y_ = (x4_1 ++ [bt a0 x5_1]) := ⟨_, rfl⟩
        replace H : (graftageref56_Unword.l0 k1 a0 y305 (wrap64 (x5_1 + 1))) = some (r1, r2) := by first | (rw [hy305]; with_reducible exact H) | (have H2_ := (Option.bind_some _ _).symm.trans H; rw [hy305]; with_reducible exact H2_) | (have H2_ := (Option.bind_some _ _).symm.trans H; with_reducible exact H2_) | with_reducible exact H | (rw [hy305]; exact H) | exact H
        have Ny305 := Aside0.mk hy305
        clear hy305
        have H' := Aside0.mk H
        clear H
        have p7 : 0 ≤ (x5_1 : Int) := of_decide_eq_true (by first | (with_reducible assumption) | assumption)
        have q7 : x5_1 < (a0.size : Int) := of_decide_eq_true (by first | (with_reducible assumption) | assumption)
        have hx7 := bt_at a0 x5_1
        replace p7 := eq_true p7
        replace q7 := eq_true q7
        have p36 : 0 ≤ (x5_1 : Int) := of_decide_eq_true (by first | (with_reducible assumption) | assumption)
        have q36 : x5_1 < (a0.size : Int) := of_decide_eq_true (by first | (with_reducible assumption) | assumption)
        have hx36 := bt_at a0 x5_1
        replace p36 := eq_true p36
        replace q36 := eq_true q36
        go_wp2_with (first | ((with_reducible refine gate_builtin (b := .append) (xs := #[.tmp 19, .tmp 23]) rfl ?_); at_builtin; refine Kd.R_append (Kd.int .u8) (w0 := w) w.heap.size rfl (.tmp 19) (.tmp 23) 62 5 (.int .u8 0) 1 rfl Tryd.underlying62 info5 rfl (by decide) (by omega) u4 x4_1 (bt a0 x5_1) [.int .u8 (bt a0 x5_1)] (fun _ => True) (fun _ => False) rfl rfl ?aP (fun _ hk => hk.elim) ?aF ?aO ?aB ?aS ?aL ?_; (case aP => exact rfl); (case aB => exact (by repeat (first | (with_reducible first | exact HB.out | apply below_alloc | apply pw_below_drewN | apply below_drew1) | exact HB.out))); (case aF => exact (fun _ _ => trivial)); (case aO => exact (by (with_reducible repeat (first | apply Kd.R_alloc | apply Kd.R_drewN | apply Kd.R_drew)); exact HO_4.out)); (case aS => exact (below_size (by repeat (first | (with_reducible first | exact HB.out | apply below_alloc | apply pw_below_drewN | apply below_drew1) | exact HB.out)))); (case aL => have := LMc37.out; omega); intro v306 w38 ho hb hg hat; rw [← Ny305.out] at ho; have n0_ := Aside0.mk (hb); have n1_ := Aside0.mk (ho); clear HB; clear HO_4; have HB := n0_; have HO307 := n1_; clear n0_ n1_; clear ho hb hg hat))
        go_roundg k1
        case measure => have := HK1.out; omega
        case rel => exact ⟨(y305), (wrap64 (x5_1 + 1)), (by first | rfl | (simp; done) | (simp [*]; done)), H', ⟨by have := HK1.out; omega⟩, ⟨by (with_reducible repeat (first | apply Kd.R_alloc | apply Kd.R_drewN | apply Kd.R_drew)); exact HO307.out⟩, ⟨by repeat (first | (with_reducible first | exact HB.out | apply below_alloc | apply pw_below_drewN | apply below_drew1) | exact HB.out)⟩⟩
       ·rw [if_neg c37] at H
        exact absurd H (by simp)
     ·rw [if_neg c6] at H
      exact absurd H (by simp)
    ·rw [if_neg c5] at H
     have c5b0 : decide (x5_1 < (a0.size : Int)) = false := decide_eq_false c5
     clear c5
     by_cases c39 : (x4_1.length : Int) = 0
     ·rw [if_pos c39] at H
      have c39b0 : ((x4_1.length : Int) == 0) = true := beq_iff_eq.mpr c39
      have c39b1 : ((x4_1.length : Int) != 0) = false := bne_eq_false_iff_eq.mpr c39
      clear c39
      simp only [Option.some.injEq, Prod.mk.injEq] at H
      obtain ⟨rfl, rfl⟩ := H
      obtain ⟨Ao40, co40, eo40⟩ := Kd.R_slice HO_4.out
      subst eo40
      go_wp2
      go_ret2
      exact ⟨by first | rfl | (simp [errW_none, errW_some] <;> rfl) | (simp [*, errW_none, errW_some] <;> rfl), by repeat (first | (with_reducible first | exact HB.out | apply below_alloc | apply pw_below_drewN | apply below_drew1) | exact HB.out)⟩
     ·rw [if_neg c39] at H
      have c39b0 : ((x4_1.length : Int) == 0) = false := beq_eq_false_iff_ne.mpr c39
      have c39b1 : ((x4_1.length : Int) != 0) = true := bne_iff_ne.mpr c39
      have c39b2 : ¬ (x4_1 = []) := fun h_ => c39 (by rw [h_]; rfl)
      replace H := Option.bind_eq_some_iff.mp H
      obtain ⟨t304, A410, H⟩ := H
      replace H : (if t304.toList = a0.toList then (some (strOfNums x4_1, true)) else (some ((⟨#[]⟩ : ByteArray), false))) = some (r1, r2) := H
      have A41 := Aside0.mk A410
      clear A410
      by_cases c42 : t304.toList = a0.toList
      ·rw [if_pos c42] at H
       have c42b0 : (t304.toList == a0.toList) = true := beq_iff_eq.mpr c42
       have c42b1 : (t304.toList != a0.toList) = false := bne_eq_false_iff_eq.mpr c42
       clear c42
       simp only [Option.some.injEq, Prod.mk.injEq] at H
       obtain ⟨rfl, rfl⟩ := H
       obtain ⟨Ao43, co43, eo43⟩ := Kd.R_slice HO_4.out
       subst eo43
       have hcv44 := own_string (P := Tryd.prog) Tryd.underlying62 Tryd.underlying5 Tryd.underlying9 (Kd.own_of_R HO_4.out)
       go_wp2_with (first | (go_at_call 26; (with_reducible refine (graftageref56_Word.calls k1 (strOfNums x4_1) t304 _ A41.out).mono ?_); rintro e w45 ⟨rfl, hb⟩; have n0_ := Aside0.mk (Kd.R_below (by (with_reducible repeat (first | apply Kd.R_alloc | apply Kd.R_drewN | apply Kd.R_drew)); exact HO_4.out) hb); have n1_ := Aside0.mk (below_step (by repeat (first | (with_reducible first | exact HB.out | apply below_alloc | apply pw_below_drewN | apply below_drew1) | exact HB.out)) hb); clear HO_4; clear HB; have HO_4 := n0_; have HB := n1_; clear n0_ n1_; (try clear hb); (try clear hb2); (try clear hk); (try clear hi); have hcv46 := own_string (P := Tryd.prog) Tryd.underlying62 Tryd.underlying5 Tryd.underlying9 (Kd.own_of_R HO_4.out)))
       go_ret2
       exact ⟨by first | rfl | (simp [errW_none, errW_some] <;> rfl) | (simp [*, errW_none, errW_some] <;> rfl), by repeat (first | (with_reducible first | exact HB.out | apply below_alloc | apply pw_below_drewN | apply below_drew1) | exact HB.out)⟩
      ·rw [if_neg c42] at H
       have c42b0 : (t304.toList == a0.toList) = false := beq_eq_false_iff_ne.mpr c42
       have c42b1 : (t304.toList != a0.toList) = true := bne_iff_ne.mpr c42
       simp only [Option.some.injEq, Prod.mk.injEq] at H
       obtain ⟨rfl, rfl⟩ := H
       obtain ⟨Ao47, co47, eo47⟩ := Kd.R_slice HO_4.out
       subst eo47
       have hcv48 := own_string (P := Tryd.prog) Tryd.underlying62 Tryd.underlying5 Tryd.underlying9 (Kd.own_of_R HO_4.out)
       go_wp2_with (first | (go_at_call 26; (with_reducible refine (graftageref56_Word.calls k1 (strOfNums x4_1) t304 _ A41.out).mono ?_); rintro e w49 ⟨rfl, hb⟩; have n0_ := Aside0.mk (Kd.R_below (by (with_reducible repeat (first | apply Kd.R_alloc | apply Kd.R_drewN | apply Kd.R_drew)); exact HO_4.out) hb); have n1_ := Aside0.mk (below_step (by repeat (first | (with_reducible first | exact HB.out | apply below_alloc | apply pw_below_drewN | apply below_drew1) | exact HB.out)) hb); clear HO_4; clear HB; have HO_4 := n0_; have HB := n1_; clear n0_ n1_; (try clear hb); (try clear hb2); (try clear hk); (try clear hi)))
       go_ret2
       exact ⟨by first | rfl | (simp [errW_none, errW_some] <;> rfl) | (simp [*, errW_none, errW_some] <;> rfl), by repeat (first | (with_reducible first | exact HB.out | apply below_alloc | apply pw_below_drewN | apply below_drew1) | exact HB.out)⟩
end Go.Proofs.YtcmemgahgenpdaaDoor.PSc
end
section
namespace Go.Proofs.YtcmemgahgenpdaaDoor.Pure
open Go.RowKit Go.Proofs.YtcmemgahgenpdaaDoor.PSc Go.Proofs.YtcmemgahgenpdaaDoor.Hand Go.Proofs.YtcmemgahgenpdaaDoorW.PrintWords Go.Proofs.YtcmemgahgenpdaaDoorW.PrintLast
set_option linter.unusedVariables false
set_option linter.unusedSimpArgs false
def digR (n : Int) : Int := (graftageref02_Digit.f 5 n).getD (-2)
def digOk (n : Nat) : Bool := (graftageref02_Digit.f 5 (n : Int) == some (digR (n : Int))) && decide (-1 ≤ digR (n : Int)) && decide (digR (n : Int) ≤ 15)
theorem dig_all : ((List.range 256).all digOk) = true := by kernel_rfl
theorem dig_ev (n : Nat) (h : n < 256) : Ev (fun k => graftageref02_Digit.f k (n : Int)) (digR (n : Int)) ∧ -1 ≤ digR (n : Int) ∧ digR (n : Int) ≤ 15 := by
  have h1 := List.all_eq_true.1 dig_all n (List.mem_range.2 h)
  unfold digOk at h1
  rw [Bool.and_eq_true, Bool.and_eq_true, beq_iff_eq, decide_eq_true_eq, decide_eq_true_eq] at h1
  exact ⟨Ev.mono (fun k => graftageref02_Digit.mono _ k) h1.1.1, h1.1.2, h1.2⟩
def hexOk (c : UInt8) : Bool := match pieceB c with | [a, h, l] => digR (h.toNat : Int) == (c.toNat / 16 : Nat) && digR (l.toNat : Int) == (c.toNat % 16 : Nat) | _ => true
theorem hex_all : ((List.range 256).all fun n => hexOk (UInt8.ofNat n)) = true := by kernel_rfl
theorem hex_ok (c : UInt8) : hexOk c = true := by
  have h := List.all_eq_true.1 hex_all c.toNat (List.mem_range.2 (by have := c.toNat_lt; omega))
  rwa [show UInt8.ofNat c.toNat = c from by simp] at h
theorem bt_range (s : ByteArray) (i : Nat) (h : i < s.size) : ∃ n : Nat, n < 256 ∧ bt s (i : Int) = (n : Int) := by
  obtain ⟨n, h1, h2, _⟩ := bt_byte s i h
  exact ⟨n, h1, h2⟩
theorem un_lit (s : ByteArray) (hs : s.size ≤ 1000000000) (acc : List Int) (ha : acc.length ≤ 1000000000) (i : Nat) (hi : i < s.size) (h : bt s i ≠ 37) (k : Nat) :
    graftageref56_Unword.l0 (k + 1) s acc i = graftageref56_Unword.l0 k s (acc ++ [bt s i]) ((i + 1 : Nat) : Int) := by
  rw [graftageref56_Unword.l0, if_pos (by omega), if_pos (by omega), if_neg h, if_pos (by omega), wrap64_id (by omega) (by omega)]; rfl
theorem un_bad (s : ByteArray) (acc : List Int) (i : Int) : Ev (fun k => graftageref56_Unword.j1 k s acc i true) bad :=
  Ev.succ (Ev.of fun k => by rw [graftageref56_Unword.j1, if_pos rfl]; rfl)
theorem un_short (s : ByteArray) (hs : s.size ≤ 1000000000) (acc : List Int) (i : Nat) (hi : i < s.size) (h : bt s i = 37) (h2 : s.size ≤ i + 2) : Ev (fun k => graftageref56_Unword.l0 k s acc i) bad := by
  have w2 : wrap64 ((i : Int) + 2) = ((i + 2 : Nat) : Int) := by rw [wrap64_id (by omega) (by omega)]; rfl
  refine Ev.succ (Ev.congr (fun k => ?_) (un_bad s acc i))
  rw [graftageref56_Unword.l0, if_pos (by omega), if_pos (by omega), if_pos h, w2, if_pos (by omega)]
theorem un_hex (s : ByteArray) (hs : s.size ≤ 1000000000) (acc : List Int) (ha : acc.length ≤ 1000000000) (i : Nat) (h : bt s i = 37) (h2 : i + 2 < s.size) (r : ByteArray × Bool)
    (hr : Ev (fun k => if digR (bt s ((i + 1 : Nat) : Int)) < 0 then some bad else if digR (bt s ((i + 2 : Nat) : Int)) < 0 then some bad else graftageref56_Unword.l0 k s (acc ++ [(wrap64 ((wrap64 (16 * digR (bt s ((i + 1 : Nat) : Int)))) + digR (bt s ((i + 2 : Nat) : Int)))) % 256]) ((i + 3 : Nat) : Int)) r) :
    Ev (fun k => graftageref56_Unword.l0 k s acc i) r := by
  have w2 : wrap64 ((i : Int) + 2) = ((i + 2 : Nat) : Int) := by rw [wrap64_id (by omega) (by omega)]; rfl
  have w1 : wrap64 ((i : Int) + 1) = ((i + 1 : Nat) : Int) := by rw [wrap64_id (by omega) (by omega)]; rfl
  have w3 : wrap64 (((i + 2 : Nat) : Int) + 1) = ((i + 3 : Nat) : Int) := by rw [wrap64_id (by omega) (by omega)]; rfl
  obtain ⟨n1, l1, b1⟩ := bt_range s (i + 1) (by omega)
  obtain ⟨n2, l2, b2⟩ := bt_range s (i + 2) (by omega)
  rw [b1, b2] at hr
  obtain ⟨d1, r1, r1'⟩ := dig_ev n1 l1
  obtain ⟨d2, r2, r2'⟩ := dig_ev n2 l2
  refine Ev.succ ?_
  simp only [graftageref56_Unword.l0, w1, w2, b1, b2]
  refine Ev.pos (by omega) (Ev.pos (by omega) (Ev.pos h (Ev.neg (by omega) (Ev.pos (by omega) (Ev.pos (by omega) (Ev.bind d1 ?_))))))
  by_cases c1 : digR (n1 : Int) < 0
  · refine Ev.pos c1 (Ev.val (un_bad s acc i) (Ev.det ?_ hr))
    exact Ev.pos c1 (Ev.pure _)
  · refine Ev.neg c1 (Ev.pos (by omega) (Ev.pos (by omega) (Ev.bind d2 ?_)))
    by_cases c2 : digR (n2 : Int) < 0
    · rw [decide_eq_true c2]
      refine Ev.val (un_bad s acc i) (Ev.det ?_ hr)
      exact Ev.neg c1 (Ev.pos c2 (Ev.pure _))
    · rw [decide_eq_false c2]
      have hr2 : Ev (fun k => graftageref56_Unword.l0 k s (acc ++ [(wrap64 ((wrap64 (16 * digR (n1 : Int))) + digR (n2 : Int))) % 256]) ((i + 3 : Nat) : Int)) r := by
        simpa only [if_neg c1, if_neg c2] using hr
      refine Ev.succ ?_
      simp only [graftageref56_Unword.j1, w1, w2, w3, b1, b2]
      exact Ev.neg (by simp) (Ev.pos (by omega) (Ev.pos (by omega) (Ev.bind d1 (Ev.pos (by omega) (Ev.pos (by omega) (Ev.bind d2 (Ev.pos (by omega) hr2)))))))
theorem un_end (s : ByteArray) (acc : List Int) (ha : acc.length ≤ 1000000000) : Ev (fun k => graftageref56_Unword.l0 k s acc (s.size : Nat)) (if acc.length ≠ 0 ∧ wordS (strOfNums acc) = s then (strOfNums acc, true) else bad) := by
  have hsz := strOfNums_size acc
  refine Ev.succ ?_
  simp only [graftageref56_Unword.l0]
  refine Ev.neg (by omega) ?_
  by_cases c : acc.length = 0
  · refine Ev.val (Ev.pos (by omega) (Ev.pure _)) (if_neg (fun h => h.1 c)).symm
  · refine Ev.neg (by omega) (Ev.bind (word_ev (strOfNums acc) (by omega)) ?_)
    by_cases e : wordS (strOfNums acc) = s
    · exact Ev.val (Ev.pos (by rw [e]) (Ev.pure _)) (if_pos ⟨c, e⟩).symm
    · exact Ev.val (Ev.neg (fun h => e (toList_iff.1 h)) (Ev.pure _)) (if_neg (fun h => e h.2)).symm
theorem un_some (s : ByteArray) (hs : s.size ≤ 1000000000) : ∀ (d i : Nat) (acc : List Int), i + d = s.size → acc.length ≤ i →
    ∃ r : ByteArray × Bool, Ev (fun k => graftageref56_Unword.l0 k s acc i) r ∧ (r = bad ∨ (r.2 = true ∧ wordS r.1 = s)) := by
  intro d
  induction d using Nat.strongRecOn with
  | ind d ih =>
    intro i acc hd ha
    by_cases c : i < s.size
    · by_cases h : bt s i = 37
      · by_cases h2 : s.size ≤ i + 2
        · exact ⟨bad, un_short s hs acc i c h h2, Or.inl rfl⟩
        · by_cases c1 : digR (bt s ((i + 1 : Nat) : Int)) < 0
          · exact ⟨bad, un_hex s hs acc (by omega) i h (by omega) _ (Ev.pos c1 (Ev.pure _)), Or.inl rfl⟩
          · by_cases c2 : digR (bt s ((i + 2 : Nat) : Int)) < 0
            · exact ⟨bad, un_hex s hs acc (by omega) i h (by omega) _ (Ev.neg c1 (Ev.pos c2 (Ev.pure _))), Or.inl rfl⟩
            · obtain ⟨r, hr, hr2⟩ := ih (d - 3) (by omega) (i + 3) (acc ++ [(wrap64 ((wrap64 (16 * digR (bt s ((i + 1 : Nat) : Int)))) + digR (bt s ((i + 2 : Nat) : Int)))) % 256]) (by omega) (by simp; omega)
              exact ⟨r, un_hex s hs acc (by omega) i h (by omega) _ (Ev.neg c1 (Ev.neg c2 hr)), hr2⟩
      · obtain ⟨r, hr, hr2⟩ := ih (d - 1) (by omega) (i + 1) (acc ++ [bt s i]) (by omega) (by simp; omega)
        exact ⟨r, Ev.succ (Ev.congr (fun k => un_lit s hs acc (by omega) i c h k) hr), hr2⟩
    · obtain rfl : i = s.size := by omega
      refine ⟨_, un_end s acc (by omega), ?_⟩
      by_cases e : acc.length ≠ 0 ∧ wordS (strOfNums acc) = s
      · rw [if_pos e]; exact Or.inr ⟨rfl, e.2⟩
      · rw [if_neg e]; exact Or.inl rfl
theorem un_word (s : ByteArray) (hs : s.size ≤ 1000000000) (T : List UInt8) : ∀ (A : List UInt8) (acc : List Int), Bs s = A ++ wordB T → acc.length ≤ A.length →
    Ev (fun k => graftageref56_Unword.l0 k s acc (A.length : Nat)) (if (acc ++ T.map fun b => (b.toNat : Int)).length ≠ 0 ∧ wordS (strOfNums (acc ++ T.map fun b => (b.toNat : Int))) = s then (strOfNums (acc ++ T.map fun b => (b.toNat : Int)), true) else bad) := by
  induction T with
  | nil =>
    intro A acc hA ha
    have hl : A.length = s.size := by rw [← Bs_size, hA]; simp [wordB]
    rw [hl, List.map_nil, List.append_nil]
    exact un_end s acc (by omega)
  | cons c T ih =>
    intro A acc hA ha
    have hA2 : Bs s = A ++ (pieceB c ++ wordB T) := by rw [hA]; rfl
    have hsz := Bs_size s
    rcases piece_cases c with ⟨hp, h1, h2⟩ | ⟨h, l, hp, _, _, _⟩
    · rw [hp] at hA2
      obtain ⟨hb, hlt⟩ := bt_app hA2
      have hne : bt s (A.length : Nat) ≠ 37 := by
        rw [hb]; intro e
        have h37 : c.toNat = 37 := by exact_mod_cast e
        exact h1 (UInt8.toNat_inj.1 h37)
      have := ih (A ++ [c]) (acc ++ [(c.toNat : Int)]) (by rw [hA2]; simp) (by simp; omega)
      rw [List.append_assoc] at this
      refine Ev.succ (Ev.congr (fun k => ?_) this)
      rw [un_lit s hs acc (by omega) A.length hlt hne k, hb, List.length_append]; rfl
    · have hx := hex_ok c
      unfold hexOk at hx
      rw [hp] at hx hA2
      simp only [Bool.and_eq_true, beq_iff_eq] at hx
      have e0 : Bs s = A ++ 37 :: (h :: l :: wordB T) := hA2
      have e1 : Bs s = (A ++ [37]) ++ h :: (l :: wordB T) := by rw [hA2]; simp
      have e2 : Bs s = (A ++ [37, h]) ++ l :: wordB T := by rw [hA2]; simp
      obtain ⟨b0, l0⟩ := bt_app e0
      obtain ⟨b1, l1⟩ := bt_app e1
      obtain ⟨b2, l2⟩ := bt_app e2
      have n1 : (A ++ [(37 : UInt8)]).length = A.length + 1 := by simp
      have n2 : (A ++ [37, h]).length = A.length + 2 := by simp
      rw [n1] at b1 l1
      rw [n2] at b2 l2
      have this := ih (A ++ [37, h, l]) (acc ++ [(c.toNat : Int)]) (by rw [hA2]; simp) (by simp; omega)
      rw [List.append_assoc] at this
      have hc := c.toNat_lt
      have hv : wrap64 ((wrap64 (16 * ((c.toNat / 16 : Nat) : Int))) + ((c.toNat % 16 : Nat) : Int)) % 256 = (c.toNat : Int) := by
        rw [wrap64_id (n := 16 * ((c.toNat / 16 : Nat) : Int)) (by omega) (by omega), wrap64_id (by omega) (by omega)]; omega
      refine un_hex s hs acc (by omega) A.length (by rw [b0]; rfl) (by omega) _ ?_
      rw [b1, b2, hx.1, hx.2, hv]
      refine Ev.neg (Int.not_lt.2 (Int.natCast_nonneg _)) (Ev.neg (Int.not_lt.2 (Int.natCast_nonneg _)) ?_)
      rw [show (A ++ [37, h, l]).length = A.length + 3 by simp] at this
      exact this
theorem unword_ev (s : ByteArray) (hs : s.size ≤ 1000000000) : ∃ r : ByteArray × Bool, Ev (fun k => graftageref56_Unword.f k s) r ∧ r.2 = okQ s ∧ (r.2 = true → r.1 = tQ s) := by
  have nobad : ¬ (s.toList = ([45] : List UInt8)) → ∀ r : ByteArray × Bool, Ev (fun k => graftageref56_Unword.l0 k s [] 0) r → Ev (fun k => graftageref56_Unword.f k s) r := fun c r h => by
    simp only [graftageref56_Unword.f]
    exact Ev.neg c h
  by_cases ho : okQ s = true
  · have hw := textQ_true s hs ho
    refine ⟨(tQ s, true), ?_, ho.symm, fun _ => rfl⟩
    by_cases c : s.toList = ([45] : List UInt8)
    · have h1 : wordS ⟨#[]⟩ = s := by rw [wordS_empty]; exact toList_iff.1 (by rw [c, toList_bytes])
      have h2 : tQ s = ⟨#[]⟩ := by
        have := textQ_word ⟨#[]⟩ (by rw [h1]; exact hs)
        rw [h1] at this
        unfold tQ; rw [this]
      rw [h2]
      simp only [graftageref56_Unword.f]
      exact Ev.pos c (Ev.pure _)
    · refine nobad c _ ?_
      have hb0 : (textQ s).1.size ≠ 0 := by
        intro h0
        apply c
        have ht : (textQ s).1 = ⟨#[]⟩ := Bs_inj (List.length_eq_zero_iff.1 (by rw [Bs_size]; exact h0))
        rw [ht, wordS_empty] at hw
        rw [← hw, toList_bytes]
      have hb := wordS_bytes (textQ s).1 hb0
      rw [hw] at hb
      have hT := un_word s hs (Bs (textQ s).1) [] [] (by rw [hb]; rfl) (Nat.le_refl _)
      rw [List.nil_append, show strOfNums ((Bs (textQ s).1).map fun b => (b.toNat : Int)) = (textQ s).1 from str_bytesOf _] at hT
      rw [if_pos ⟨by rw [List.length_map, Bs_size]; exact hb0, hw⟩] at hT
      exact hT
  · have ho2 : okQ s = false := by cases e : okQ s with | false => rfl | true => exact absurd e ho
    have c : ¬ (s.toList = ([45] : List UInt8)) := by
      intro c
      have h1 : wordS ⟨#[]⟩ = s := by rw [wordS_empty]; exact toList_iff.1 (by rw [c, toList_bytes])
      have := textQ_word ⟨#[]⟩ (by rw [h1]; exact hs)
      rw [h1] at this
      exact ho (by unfold okQ; rw [this])
    obtain ⟨r, hr, h2⟩ := un_some s hs s.size 0 [] (by omega) (Nat.le_refl _)
    rcases h2 with rfl | ⟨h3, h4⟩
    · exact ⟨bad, nobad c _ hr, ho2.symm, fun h => by cases h⟩
    · have := textQ_word r.1 (by rw [h4]; exact hs)
      rw [h4] at this
      exact absurd (show okQ s = true by unfold okQ; rw [this]) ho
end Go.Proofs.YtcmemgahgenpdaaDoor.Pure
end
