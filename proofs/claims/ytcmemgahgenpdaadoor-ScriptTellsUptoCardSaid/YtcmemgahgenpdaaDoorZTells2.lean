/- The law ScriptTells: what its proof takes, part 3 of 5 (packed by wip/gen/pack.py: each section was a text of its own). -/
import Derived.Test.YtcmemgahgenpdaaDoorZTells0
import Derived.Test.YtcmemgahgenpdaaDoorZTells1
import Derived.Lib.IndexMore
import Derived.Lib.IndexBytes
section
namespace Go.Proofs.YtcmemgahgenpdaaDoor.PSc
open Go.Proofs.YtcmemgahgenpdaaDoor.Hand Go.RowKit Go.Proofs.YtcmemgahgenpdaaDoorW.PrintWords Go.Proofs.YtcmemgahgenpdaaDoorW.PrintLast Go.Proofs.YtcmemgahgenpdaaDoorW.PrintMore
attribute [local go_sem] max2_int min2_int max_two min_two max_three min_three max_four min_four
set_option linter.unusedVariables false
set_option linter.unusedSimpArgs false
def script_Text.l0 : Nat → List ByteArray → List ByteArray → Int → Int → Int → List ByteArray → List ByteArray → Int → ByteArray → Option (ByteArray)
 | 0, _, _, _, _, _, _, _, _, _ => none
 | k + 1, x3, x28, x29, x30, x179000, x179001, x179002, x179003, x179004 => if x30 < x29 then (if 0 ≤ x30 then (if x30 < (x28.length : Int) then ((script_word.f (rdOf ByteArray.empty x28 x30)).bind fun t193 => (if x3.length < 8796093022208 then (script_Text.l0 k (x3 ++ [t193]) x28 x29 (wrap64 (x30 + 1)) x179000 x179001 x179002 x179003 x179004) else (none))) else (none)) else (none)) else ((script_word.f x179004).bind fun t197 => (if x3.length < 8796093022208 then ((script_joined.f (x3 ++ [t197])).bind fun t201 => (some t201)) else (none)))
def script_Text.f (k : Nat) (a0_0 : Int) (l0_1 : List ByteArray) (l0_2 : List ByteArray) (a0_3 : Int) (a0_4 : ByteArray) : Option (ByteArray) := (strconv_Itoa_20.f a0_0).bind fun t179 => ((strconv_Itoa_20.f a0_3).bind fun t180 => ((strconv_Itoa_20.f (l0_1.length : Int)).bind fun t181 => ((some (([t179, t180, t181] : List ByteArray) : List ByteArray)).bind fun y182 => (if y182.length + l0_1.length < 8796093022208 then ((some (y182 ++ l0_1 : List ByteArray)).bind fun y185 => ((strconv_Itoa_20.f (l0_2.length : Int)).bind fun t188 => (if y185.length < 8796093022208 then (script_Text.l0 k (y185 ++ [t188]) l0_2 (l0_2.length : Int) 0 a0_0 l0_1 l0_2 a0_3 a0_4) else (none)))) else (none)))))
def script_Text.T1 : Bool × List (List Nat × List Nat) := (true, [([], []), ([0], [0]), ([1], [1]), ([], []), ([3], [3]), ([4, 2], [4]), ([], []), ([6], [6]), ([7], [7]), ([8, 5], [8]), ([2, 5, 9], [2, 5, 9]), ([10, 9, 0, 1, 2, 3, 4, 5, 6, 7, 8, 9, 10], [10])])
def script_Text.B1 : List Nat := [0, 1, 3, 0, 8, 31, 0, 64, 192, 511, 1023, 2047]
theorem script_Text.tab1 : rtab .any (opsOf Tryd.f13 1) = script_Text.T1 := by kernel_rfl
theorem script_Text.bits1 : waitsOk script_Text.T1.2 script_Text.B1 = true := by kernel_rfl
def script_Text.T2 : Bool × List (List Nat × List Nat) := (true, [([], []), ([], []), ([1], [1]), ([0, 2], [0, 2]), ([], []), ([4], [4]), ([5], [5]), ([6, 3], [6]), ([7], [7]), ([3, 8, 7], [3, 8]), ([9, 9, 0, 1, 2, 3, 4, 5, 6, 7, 8, 9], [0, 9])])
def script_Text.B2 : List Nat := [0, 0, 2, 7, 0, 16, 48, 127, 255, 511, 1023]
theorem script_Text.tab2 : rtab .any (opsOf Tryd.f13 2) = script_Text.T2 := by kernel_rfl
theorem script_Text.bits2 : waitsOk script_Text.T2.2 script_Text.B2 = true := by kernel_rfl
set_option maxHeartbeats 8000000 in
set_option maxRecDepth 100000 in
theorem script_Text.calls (k : Nat) (a0_0 : Int) (A0_1 : Option Addr) (c0_1 : Nat) (l0_1 : List ByteArray) (A0_2 : Option Addr) (c0_2 : Nat) (l0_2 : List ByteArray) (a0_3 : Int) (a0_4 : ByteArray) (r : ByteArray) (w : World) (hr0_1 : Kd.C Kd.string w A0_1 l0_1.length l0_1) (hc0_1 : l0_1.length ≤ c0_1) (hr0_2 : Kd.C Kd.string w A0_2 l0_2.length l0_2) (hc0_2 : l0_2.length ≤ c0_2) (hWd : Wds w) (h : script_Text.f k a0_0 l0_1 l0_2 a0_3 a0_4 = some r) :
  Calls Tryd.prog 13 #[.agg #[.int .i64 a0_0, .slice A0_1 l0_1.length c0_1, .slice A0_2 l0_2.length c0_2, .int .i64 a0_3, .string a0_4]] w fun e w' => e = .returned (.string r) ∧ Below w.heap.size w w' := by
 have hu36 := Tryd.underlying36
 have HR0_1 := Aside0.mk hr0_1
 have HC0_1 := Aside0.mk hc0_1
 clear hr0_1 hc0_1
 have HR0_2 := Aside0.mk hr0_2
 have HC0_2 := Aside0.mk hc0_2
 clear hr0_2 hc0_2
 have HB := Aside0.mk (Below.refl w.heap.size w)
 have H : ((strconv_Itoa_20.f a0_0).bind fun t179 => ((strconv_Itoa_20.f a0_3).bind fun t180 => ((strconv_Itoa_20.f (l0_1.length : Int)).bind fun t181 => ((some (([t179, t180, t181] : List ByteArray) : List ByteArray)).bind fun y182 => (if y182.length + l0_1.length < 8796093022208 then ((some (y182 ++ l0_1 : List ByteArray)).bind fun y185 => ((strconv_Itoa_20.f (l0_2.length : Int)).bind fun t188 => (if y185.length < 8796093022208 then (script_Text.l0 k (y185 ++ [t188]) l0_2 (l0_2.length : Int) 0 a0_0 l0_1 l0_2 a0_3 a0_4) else (none)))) else (none)))))) = some r := h
 clear h
 replace H := Option.bind_eq_some_iff.mp H
 obtain ⟨t179, A20, H⟩ := H
 replace H : ((strconv_Itoa_20.f a0_3).bind fun t180 => ((strconv_Itoa_20.f (l0_1.length : Int)).bind fun t181 => ((some (([t179, t180, t181] : List ByteArray) : List ByteArray)).bind fun y182 => (if y182.length + l0_1.length < 8796093022208 then ((some (y182 ++ l0_1 : List ByteArray)).bind fun y185 => ((strconv_Itoa_20.f (l0_2.length : Int)).bind fun t188 => (if y185.length < 8796093022208 then (script_Text.l0 k (y185 ++ [t188]) l0_2 (l0_2.length : Int) 0 a0_0 l0_1 l0_2 a0_3 a0_4) else (none)))) else (none))))) = some r := H
 have A2 := Aside0.mk A20
 clear A20
 replace H := Option.bind_eq_some_iff.mp H
 obtain ⟨t180, A30, H⟩ := H
 replace H : ((strconv_Itoa_20.f (l0_1.length : Int)).bind fun t181 => ((some (([t179, t180, t181] : List ByteArray) : List ByteArray)).bind fun y182 => (if y182.length + l0_1.length < 8796093022208 then ((some (y182 ++ l0_1 : List ByteArray)).bind fun y185 => ((strconv_Itoa_20.f (l0_2.length : Int)).bind fun t188 => (if y185.length < 8796093022208 then (script_Text.l0 k (y185 ++ [t188]) l0_2 (l0_2.length : Int) 0 a0_0 l0_1 l0_2 a0_3 a0_4) else (none)))) else (none)))) = some r := H
 have A3 := Aside0.mk A30
 clear A30
 replace H := Option.bind_eq_some_iff.mp H
 obtain ⟨t181, A40, H⟩ := H
 replace H : ((some (([t179, t180, t181] : List ByteArray) : List ByteArray)).bind fun y182 => (if y182.length + l0_1.length < 8796093022208 then ((some (y182 ++ l0_1 : List ByteArray)).bind fun y185 => ((strconv_Itoa_20.f (l0_2.length : Int)).bind fun t188 => (if y185.length < 8796093022208 then (script_Text.l0 k (y185 ++ [t188]) l0_2 (l0_2.length : Int) 0 a0_0 l0_1 l0_2 a0_3 a0_4) else (none)))) else (none))) = some r := H
 have A4 := Aside0.mk A40
 clear A40
 obtain ⟨y182, hy182⟩ : ∃ y_ : List ByteArray, y_ = (([t179, t180, t181] : List ByteArray)) := ⟨_, rfl⟩
 replace H : (if y182.length + l0_1.length < 8796093022208 then ((some (y182 ++ l0_1 : List ByteArray)).bind fun y185 => ((strconv_Itoa_20.f (l0_2.length : Int)).bind fun t188 => (if y185.length < 8796093022208 then (script_Text.l0 k (y185 ++ [t188]) l0_2 (l0_2.length : Int) 0 a0_0 l0_1 l0_2 a0_3 a0_4) else (none)))) else (none)) = some r := by first | (rw [hy182]; with_reducible exact H) | (have H2_ := (Option.bind_some _ _).symm.trans H; rw [hy182]; with_reducible exact H2_) | (have H2_ := (Option.bind_some _ _).symm.trans H; with_reducible exact H2_) | with_reducible exact H | (rw [hy182]; exact H) | exact H
 have Ny182 := Aside0.mk hy182
 clear hy182
 by_cases c5 : y182.length + l0_1.length < 8796093022208
 ·rw [if_pos c5] at H
  have LMc5 := Aside0.mk c5
  clear c5
  obtain ⟨y185, hy185⟩ : ∃ y_ : List ByteArray, y_ = (y182 ++ l0_1) := ⟨_, rfl⟩
  replace H : ((strconv_Itoa_20.f (l0_2.length : Int)).bind fun t188 => (if y185.length < 8796093022208 then (script_Text.l0 k (y185 ++ [t188]) l0_2 (l0_2.length : Int) 0 a0_0 l0_1 l0_2 a0_3 a0_4) else (none))) = some r := by first | (rw [hy185]; with_reducible exact H) | (have H2_ := (Option.bind_some _ _).symm.trans H; rw [hy185]; with_reducible exact H2_) | (have H2_ := (Option.bind_some _ _).symm.trans H; with_reducible exact H2_) | with_reducible exact H | (rw [hy185]; exact H) | exact H
  have Ny185 := Aside0.mk hy185
  clear hy185
  replace H := Option.bind_eq_some_iff.mp H
  obtain ⟨t188, A60, H⟩ := H
  replace H : (if y185.length < 8796093022208 then (script_Text.l0 k (y185 ++ [t188]) l0_2 (l0_2.length : Int) 0 a0_0 l0_1 l0_2 a0_3 a0_4) else (none)) = some r := H
  have A6 := Aside0.mk A60
  clear A60
  by_cases c7 : y185.length < 8796093022208
  ·rw [if_pos c7] at H
   have LMc7 := Aside0.mk c7
   clear c7
   obtain ⟨y189, hy189⟩ : ∃ y_ : List ByteArray, y_ = (y185 ++ [t188]) := ⟨_, rfl⟩
   replace H : (script_Text.l0 k y189 l0_2 (l0_2.length : Int) 0 a0_0 l0_1 l0_2 a0_3 a0_4) = some r := by first | (rw [hy189]; with_reducible exact H) | (have H2_ := (Option.bind_some _ _).symm.trans H; rw [hy189]; with_reducible exact H2_) | (have H2_ := (Option.bind_some _ _).symm.trans H; with_reducible exact H2_) | with_reducible exact H | (rw [hy189]; exact H) | exact H
   have Ny189 := Aside0.mk hy189
   clear hy189
   have H' := Aside0.mk H
   clear H
   go_enter Tryd.func13, Tryd.ntmps13
   try go_wp2_with (first | ((with_reducible refine gate_dst (N := 1) rfl ?_); refine box_event ?hg (N := 1) ?hd (cs := #[.int .i64 a0_0, .slice A0_1 l0_1.length c0_1, .slice A0_2 l0_2.length c0_2, .int .i64 a0_3, .string a0_4]) (t := 36) ?hr ?_; (case hd => rfl); (case hg => rfl); (case hr => first | (go_simp; done) | (go_simp; rfl)); intro gb178 hg w8 hbox hb; have n0_ := Aside0.mk (below_step (by repeat (first | (with_reducible first | exact HB.out | apply below_alloc | apply pw_below_drewN | apply below_drew1) | exact HB.out)) hb); have n1_ := Aside0.mk (hbox); have n2_ := Aside0.mk ((by rw [hg]; exact (below_size (by repeat (first | (with_reducible first | exact HB.out | apply below_alloc | apply pw_below_drewN | apply below_drew1) | exact HB.out))) : w.heap.size ≤ gb178)); have n3_ := Aside0.mk ((by rw [hg]; exact (below_size (by repeat (first | (with_reducible first | exact HB.out | apply below_alloc | apply pw_below_drewN | apply below_drew1) | exact HB.out))) : w.heap.size ≤ gb178)); clear HB; have HB := n0_; have BK178 := n1_; have GW178 := n2_; have GE178 := n3_; clear n0_ n1_ n2_ n3_; clear hb hbox hg))
   have n0_ := Aside0.mk (blk_drew BK178.out)
   have n1_ := Aside0.mk (below_drew1 HB.out)
   clear BK178
   clear HB
   have BK178 := n0_
   have HB := n1_
   clear n0_ n1_
   refine start_ (n := 12) (S := fun w' => w'.cell? ⟨gb178, 0, none⟩ = some (.int .i64 a0_0) ∧ w'.cell? ⟨gb178, 1, none⟩ = some (.slice A0_1 l0_1.length c0_1) ∧ w'.cell? ⟨gb178, 2, none⟩ = some (.slice A0_2 l0_2.length c0_2) ∧ w'.cell? ⟨gb178, 3, none⟩ = some (.int .i64 a0_3) ∧ w'.cell? ⟨gb178, 4, none⟩ = some (.string a0_4)) (ds := []) #[false, false, false, false, false, false, false, false, false, false, false, false] (by kernel_rfl) rfl rfl ⟨(blk_cell BK178.out 0).trans rfl, (blk_cell BK178.out 1).trans rfl, (blk_cell BK178.out 2).trans rfl, (blk_cell BK178.out 3).trans rfl, (blk_cell BK178.out 4).trans rfl⟩ (fun hHeld => ?_); refine with_tabW script_Text.tab1 script_Text.bits1 (fun HT_ HW_ => ?_)
   generalize w8.drew = w9 at BK178 HB hHeld ⊢
   refine pure_ (i := 0) (N := some 6) (v := ?_) (a' := ?_) #[true, false, false, false, false, false, false, false, false, false, false, false] rfl rfl (any_of HT_.out (by kernel_rfl)) (fun _ _ _ h => h) (Or.inl ⟨by rfl, ?_⟩) ?_ ?_
   rotate_left
   ·intro w'
    go_simp
    with_reducible rfl
   rotate_left
   ·simp only [Act.put, List.setIfInBounds_toArray, List.set_cons_zero, List.set_cons_succ, i64_w, i32_w]
    rfl
   refine pure_ (i := 3) (N := some 9) (v := ?_) (a' := ?_) #[true, false, false, true, false, false, false, false, false, false, false, false] rfl rfl (any_of HT_.out (by kernel_rfl)) (fun _ _ _ h => h) (Or.inl ⟨by rfl, ?_⟩) ?_ ?_
   rotate_left
   ·intro w'
    go_simp
    with_reducible rfl
   rotate_left
   ·simp only [Act.put, List.setIfInBounds_toArray, List.set_cons_zero, List.set_cons_succ, i64_w, i32_w]
    rfl
   refine pure_ (i := 6) (N := some 12) (v := ?_) (a' := ?_) #[true, false, false, true, false, false, true, false, false, false, false, false] rfl rfl (any_of HT_.out (by kernel_rfl)) (fun _ _ _ h => h) (Or.inl ⟨by rfl, ?_⟩) ?_ ?_
   rotate_left
   ·intro w'
    go_simp
    with_reducible rfl
   rotate_left
   ·simp only [Act.put, List.setIfInBounds_toArray, List.set_cons_zero, List.set_cons_succ, i64_w, i32_w]
    rfl
   refine take_ (i := 1) (N := some 7) (v := ?_) (a' := ?_) #[true, true, false, true, false, false, true, false, false, false, false, false] rfl rfl (take_ofW HT_.out HW_.out (by kernel_rfl)) (fun _ _ _ h => h) (Or.inl ⟨by rfl, ?_⟩) hHeld ?_ ?_
   rotate_left
   ·rintro w' ⟨s0, s1, s2, s3, s4⟩
    go_simp
    with_reducible rfl
   rotate_left
   ·simp only [Act.put, List.setIfInBounds_toArray, List.set_cons_zero, List.set_cons_succ, i64_w, i32_w]
    rfl
   refine take_ (i := 4) (N := some 10) (v := ?_) (a' := ?_) #[true, true, false, true, true, false, true, false, false, false, false, false] rfl rfl (take_ofW HT_.out HW_.out (by kernel_rfl)) (fun _ _ _ h => h) (Or.inl ⟨by rfl, ?_⟩) hHeld ?_ ?_
   rotate_left
   ·rintro w' ⟨s0, s1, s2, s3, s4⟩
    go_simp
    with_reducible rfl
   rotate_left
   ·simp only [Act.put, List.setIfInBounds_toArray, List.set_cons_zero, List.set_cons_succ, i64_w, i32_w]
    rfl
   refine take_ (i := 7) (N := some 13) (v := ?_) (a' := ?_) #[true, true, false, true, true, false, true, true, false, false, false, false] rfl rfl (take_ofW HT_.out HW_.out (by kernel_rfl)) (fun _ _ _ h => h) (Or.inl ⟨by rfl, ?_⟩) hHeld ?_ ?_
   rotate_left
   ·rintro w' ⟨s0, s1, s2, s3, s4⟩
    go_simp
    with_reducible rfl
   rotate_left
   ·simp only [Act.put, List.setIfInBounds_toArray, List.set_cons_zero, List.set_cons_succ, i64_w, i32_w]
    rfl
   refine pure_ (i := 8) (N := some 14) (v := ?_) (a' := ?_) #[true, true, false, true, true, false, true, true, true, false, false, false] rfl rfl (any_of HT_.out (by kernel_rfl)) (fun _ _ _ h => h) (Or.inl ⟨by rfl, ?_⟩) ?_ ?_
   rotate_left
   ·intro w'
    go_simp
    with_reducible rfl
   rotate_left
   ·simp only [Act.put, List.setIfInBounds_toArray, List.set_cons_zero, List.set_cons_succ, i64_w, i32_w]
    rfl
   refine one_ (i := 2) (N := some 8) #[true, true, true, true, true, false, true, true, true, false, false, false] rfl rfl (one_of HT_.out (by kernel_rfl)) (by decide) (fun K hK => ?_)
   refine goes_ Tryd.func20 (by kernel_rfl) rfl #[.int .i64 a0_0] (by rfl) rfl rfl (by (try simp only [List.map_toArray, List.map_cons, List.map_nil]); first | done | rfl | (simp only [List.length_drop, List.length_take]; rfl)) ?_
   with_reducible refine (strconv_Itoa_20.calls a0_0 t179 _ (hWd.below (by repeat (first | (with_reducible first | exact HB.out | apply below_alloc | apply pw_below_drewN | apply below_drew1 | refine below_set ?_ GE178.out) | exact HB.out))) A2.out).mono ?_
   rintro e w10 ⟨rfl, hb⟩
   refine ⟨_, rfl, ?_⟩
   have n0_ := Aside0.mk (blk_below (g := gb178) (o := .cells #[.int .i64 a0_0, .slice A0_1 l0_1.length c0_1, .slice A0_2 l0_2.length c0_2, .int .i64 a0_3, .string a0_4] 36 (0, 0)) (by (with_reducible repeat (first | refine blk_drewN ?_ _ | refine blk_drew ?_ | refine blk_alloc ?_ _)); exact BK178.out) hb)
   have n1_ := Aside0.mk (below_step (by repeat (first | (with_reducible first | exact HB.out | apply below_alloc | apply pw_below_drewN | apply below_drew1 | refine below_set ?_ GE178.out) | exact HB.out)) hb)
   clear BK178
   clear HB
   have BK178 := n0_
   have HB := n1_
   clear n0_ n1_
   (try clear hb)
   (try clear hb2)
   (try clear hk)
   (try clear hi)
   refine hK.out _ _ ⟨(blk_cell BK178.out 0).trans rfl, (blk_cell BK178.out 1).trans rfl, (blk_cell BK178.out 2).trans rfl, (blk_cell BK178.out 3).trans rfl, (blk_cell BK178.out 4).trans rfl⟩ (fun hHeld => ?_)
   clear hK K
   refine norm_ (a' := ?_) ?_ ?_
   rotate_left
   ·show Act.put _ (some 8) _ = _
    simp only [Act.put, List.setIfInBounds_toArray, List.set_cons_zero, List.set_cons_succ, i64_w, i32_w]
    rfl
   refine one_ (i := 5) (N := some 11) #[true, true, true, true, true, true, true, true, true, false, false, false] rfl rfl (one_of HT_.out (by kernel_rfl)) (by decide) (fun K hK => ?_)
   refine goes_ Tryd.func20 (by kernel_rfl) rfl #[.int .i64 a0_3] (by rfl) rfl rfl (by (try simp only [List.map_toArray, List.map_cons, List.map_nil]); first | done | rfl | (simp only [List.length_drop, List.length_take]; rfl)) ?_
   with_reducible refine (strconv_Itoa_20.calls a0_3 t180 _ (hWd.below (by repeat (first | (with_reducible first | exact HB.out | apply below_alloc | apply pw_below_drewN | apply below_drew1 | refine below_set ?_ GE178.out) | exact HB.out))) A3.out).mono ?_
   rintro e w11 ⟨rfl, hb⟩
   refine ⟨_, rfl, ?_⟩
   have n0_ := Aside0.mk (blk_below (g := gb178) (o := .cells #[.int .i64 a0_0, .slice A0_1 l0_1.length c0_1, .slice A0_2 l0_2.length c0_2, .int .i64 a0_3, .string a0_4] 36 (0, 0)) (by (with_reducible repeat (first | refine blk_drewN ?_ _ | refine blk_drew ?_ | refine blk_alloc ?_ _)); exact BK178.out) hb)
   have n1_ := Aside0.mk (below_step (by repeat (first | (with_reducible first | exact HB.out | apply below_alloc | apply pw_below_drewN | apply below_drew1 | refine below_set ?_ GE178.out) | exact HB.out)) hb)
   clear BK178
   clear HB
   have BK178 := n0_
   have HB := n1_
   clear n0_ n1_
   (try clear hb)
   (try clear hb2)
   (try clear hk)
   (try clear hi)
   refine hK.out _ _ ⟨(blk_cell BK178.out 0).trans rfl, (blk_cell BK178.out 1).trans rfl, (blk_cell BK178.out 2).trans rfl, (blk_cell BK178.out 3).trans rfl, (blk_cell BK178.out 4).trans rfl⟩ (fun hHeld => ?_)
   clear hK K
   refine norm_ (a' := ?_) ?_ ?_
   rotate_left
   ·show Act.put _ (some 11) _ = _
    simp only [Act.put, List.setIfInBounds_toArray, List.set_cons_zero, List.set_cons_succ, i64_w, i32_w]
    rfl
   refine one_ (i := 9) (N := some 15) #[true, true, true, true, true, true, true, true, true, true, false, false] rfl rfl (one_of HT_.out (by kernel_rfl)) (by decide) (fun K hK => ?_)
   refine goes_ Tryd.func20 (by kernel_rfl) rfl #[.int .i64 (l0_1.length : Int)] (by rfl) rfl rfl (by (try simp only [List.map_toArray, List.map_cons, List.map_nil]); first | done | rfl | (simp only [List.length_drop, List.length_take]; rfl)) ?_
   with_reducible refine (strconv_Itoa_20.calls (l0_1.length : Int) t181 _ (hWd.below (by repeat (first | (with_reducible first | exact HB.out | apply below_alloc | apply pw_below_drewN | apply below_drew1 | refine below_set ?_ GE178.out) | exact HB.out))) A4.out).mono ?_
   rintro e w12 ⟨rfl, hb⟩
   refine ⟨_, rfl, ?_⟩
   have n0_ := Aside0.mk (blk_below (g := gb178) (o := .cells #[.int .i64 a0_0, .slice A0_1 l0_1.length c0_1, .slice A0_2 l0_2.length c0_2, .int .i64 a0_3, .string a0_4] 36 (0, 0)) (by (with_reducible repeat (first | refine blk_drewN ?_ _ | refine blk_drew ?_ | refine blk_alloc ?_ _)); exact BK178.out) hb)
   have n1_ := Aside0.mk (below_step (by repeat (first | (with_reducible first | exact HB.out | apply below_alloc | apply pw_below_drewN | apply below_drew1 | refine below_set ?_ GE178.out) | exact HB.out)) hb)
   clear BK178
   clear HB
   have BK178 := n0_
   have HB := n1_
   clear n0_ n1_
   (try clear hb)
   (try clear hb2)
   (try clear hk)
   (try clear hi)
   refine hK.out _ _ ⟨(blk_cell BK178.out 0).trans rfl, (blk_cell BK178.out 1).trans rfl, (blk_cell BK178.out 2).trans rfl, (blk_cell BK178.out 3).trans rfl, (blk_cell BK178.out 4).trans rfl⟩ (fun hHeld => ?_)
   clear hK K
   refine norm_ (a' := ?_) ?_ ?_
   rotate_left
   ·show Act.put _ (some 15) _ = _
    simp only [Act.put, List.setIfInBounds_toArray, List.set_cons_zero, List.set_cons_succ, i64_w, i32_w]
    rfl
   refine one_ (i := 10) (N := some 16) #[true, true, true, true, true, true, true, true, true, true, true, false] rfl rfl (one_of HT_.out (by kernel_rfl)) (by decide) (fun K hK => ?_)
   refine Kd.R_lit_step Kd.string _ 9 ?hg (N := 16) ?hd (xs := ([t179, t180, t181] : List ByteArray)) (inner := [.string t179, .string t180, .string t181]) (ok := fun _ => True) (okp := fun _ => True) ?hr ?hp (fun _ hk => hk) trivial (Below.refl _ _) (Nat.le_refl _) (by simp) ?_; (case hd => rfl); (case hg => rfl); (case hr => first | (go_simp; done) | (go_simp; rfl)); (case hp => exact (Reps.one (show Kd.M Kd.string _ _ _ t179 [.string t179] from rfl) (Reps.one (show Kd.M Kd.string _ _ _ t180 [.string t180] from rfl) (Reps.one (show Kd.M Kd.string _ _ _ t181 [.string t181] from rfl) (Reps.none _ _)))))
   intro v183 w13 ho14 hb hg_ hnew_
   clear hg_ hnew_
   (first | rw [← Ny182.out] at ho14 | (simp only [Int.reduceToNat] at ho14; rw [← Ny182.out] at ho14))
   have n0_ := Aside0.mk (Kd.R_lower ho14 (below_size (by repeat (first | (with_reducible first | exact HB.out | apply below_alloc | apply pw_below_drewN | apply below_drew1 | refine below_set ?_ GE178.out) | exact HB.out))))
   have n1_ := Aside0.mk (blk_below (g := gb178) (o := .cells #[.int .i64 a0_0, .slice A0_1 l0_1.length c0_1, .slice A0_2 l0_2.length c0_2, .int .i64 a0_3, .string a0_4] 36 (0, 0)) (by (with_reducible repeat (first | refine blk_drewN ?_ _ | refine blk_drew ?_ | refine blk_alloc ?_ _)); exact BK178.out) hb)
   have n2_ := Aside0.mk (below_step (by repeat (first | (with_reducible first | exact HB.out | apply below_alloc | apply pw_below_drewN | apply below_drew1 | refine below_set ?_ GE178.out) | exact HB.out)) hb)
   clear BK178
   clear HB
   have HO184 := n0_
   have BK178 := n1_
   have HB := n2_
   clear n0_ n1_ n2_
   clear hb ho14
   refine hK.out _ _ ⟨(blk_cell BK178.out 0).trans rfl, (blk_cell BK178.out 1).trans rfl, (blk_cell BK178.out 2).trans rfl, (blk_cell BK178.out 3).trans rfl, (blk_cell BK178.out 4).trans rfl⟩ (fun hHeld => ?_)
   clear hK K
   refine norm_ (a' := ?_) ?_ ?_
   rotate_left
   ·show Act.put _ (some 16) _ = _
    simp only [Act.put, List.setIfInBounds_toArray, List.set_cons_zero, List.set_cons_succ, i64_w, i32_w]
    rfl
   refine pure_ (i := 11) (N := some 3) (v := ?_) (a' := ?_) #[true, true, true, true, true, true, true, true, true, true, true, true] rfl rfl (any_of HT_.out (by kernel_rfl)) (fun _ _ _ h => h) (Or.inl ⟨by rfl, ?_⟩) ?_ ?_
   rotate_left
   ·intro w'
    go_simp
    with_reducible rfl
   rotate_left
   ·simp only [Act.put, List.setIfInBounds_toArray, List.set_cons_zero, List.set_cons_succ, i64_w, i32_w]
    rfl
   refine done_ (done_of HT_.out (by kernel_rfl)) ?_
   try go_wp2
   have n0_ := Aside0.mk (Kd.R_drew HO184.out)
   have n1_ := Aside0.mk (blk_drew BK178.out)
   have n2_ := Aside0.mk (below_drew1 HB.out)
   clear HO184
   clear BK178
   clear HB
   have HO184 := n0_
   have BK178 := n1_
   have HB := n2_
   clear n0_ n1_ n2_
   refine start_ (n := 11) (S := fun w' => w'.cell? ⟨gb178, 0, none⟩ = some (.int .i64 a0_0) ∧ w'.cell? ⟨gb178, 1, none⟩ = some (.slice A0_1 l0_1.length c0_1) ∧ w'.cell? ⟨gb178, 2, none⟩ = some (.slice A0_2 l0_2.length c0_2) ∧ w'.cell? ⟨gb178, 3, none⟩ = some (.int .i64 a0_3) ∧ w'.cell? ⟨gb178, 4, none⟩ = some (.string a0_4)) (ds := []) #[false, false, false, false, false, false, false, false, false, false, false] (by kernel_rfl) rfl rfl ⟨(blk_cell BK178.out 0).trans rfl, (blk_cell BK178.out 1).trans rfl, (blk_cell BK178.out 2).trans rfl, (blk_cell BK178.out 3).trans rfl, (blk_cell BK178.out 4).trans rfl⟩ (fun hHeld => ?_); refine with_tabW script_Text.tab2 script_Text.bits2 (fun HT_ HW_ => ?_)
   generalize w13.drew = w15 at HO184 BK178 HB hHeld ⊢
   refine pure_ (i := 0) (N := some 17) (v := ?_) (a' := ?_) #[true, false, false, false, false, false, false, false, false, false, false] rfl rfl (any_of HT_.out (by kernel_rfl)) (fun _ _ _ h => h) (Or.inl ⟨by rfl, ?_⟩) ?_ ?_
   rotate_left
   ·intro w'
    go_simp
    with_reducible rfl
   rotate_left
   ·simp only [Act.put, List.setIfInBounds_toArray, List.set_cons_zero, List.set_cons_succ, i64_w, i32_w]
    rfl
   refine pure_ (i := 1) (N := some 18) (v := ?_) (a' := ?_) #[true, true, false, false, false, false, false, false, false, false, false] rfl rfl (any_of HT_.out (by kernel_rfl)) (fun _ _ _ h => h) (Or.inl ⟨by rfl, ?_⟩) ?_ ?_
   rotate_left
   ·intro w'
    go_simp
    with_reducible rfl
   rotate_left
   ·simp only [Act.put, List.setIfInBounds_toArray, List.set_cons_zero, List.set_cons_succ, i64_w, i32_w]
    rfl
   refine pure_ (i := 4) (N := some 21) (v := ?_) (a' := ?_) #[true, true, false, false, true, false, false, false, false, false, false] rfl rfl (any_of HT_.out (by kernel_rfl)) (fun _ _ _ h => h) (Or.inl ⟨by rfl, ?_⟩) ?_ ?_
   rotate_left
   ·intro w'
    go_simp
    with_reducible rfl
   rotate_left
   ·simp only [Act.put, List.setIfInBounds_toArray, List.set_cons_zero, List.set_cons_succ, i64_w, i32_w]
    rfl
   refine take_ (i := 2) (N := some 19) (v := ?_) (a' := ?_) #[true, true, true, false, true, false, false, false, false, false, false] rfl rfl (take_ofW HT_.out HW_.out (by kernel_rfl)) (fun _ _ _ h => h) (Or.inl ⟨by rfl, ?_⟩) hHeld ?_ ?_
   rotate_left
   ·rintro w' ⟨s0, s1, s2, s3, s4⟩
    go_simp
    with_reducible rfl
   rotate_left
   ·simp only [Act.put, List.setIfInBounds_toArray, List.set_cons_zero, List.set_cons_succ, i64_w, i32_w]
    rfl
   refine take_ (i := 5) (N := some 22) (v := ?_) (a' := ?_) #[true, true, true, false, true, true, false, false, false, false, false] rfl rfl (take_ofW HT_.out HW_.out (by kernel_rfl)) (fun _ _ _ h => h) (Or.inl ⟨by rfl, ?_⟩) hHeld ?_ ?_
   rotate_left
   ·rintro w' ⟨s0, s1, s2, s3, s4⟩
    go_simp
    with_reducible rfl
   rotate_left
   ·simp only [Act.put, List.setIfInBounds_toArray, List.set_cons_zero, List.set_cons_succ, i64_w, i32_w]
    rfl
   refine pure_ (i := 6) (N := some 23) (v := ?_) (a' := ?_) #[true, true, true, false, true, true, true, false, false, false, false] rfl rfl (any_of HT_.out (by kernel_rfl)) (fun _ _ _ h => h) (Or.inl ⟨by rfl, ?_⟩) ?_ ?_
   rotate_left
   ·intro w'
    go_simp
    with_reducible rfl
   rotate_left
   ·simp only [Act.put, List.setIfInBounds_toArray, List.set_cons_zero, List.set_cons_succ, i64_w, i32_w]
    rfl
   refine one_ (i := 3) (N := some 20) #[true, true, true, true, true, true, true, false, false, false, false] rfl rfl (one_of HT_.out (by kernel_rfl)) (by decide) (fun K hK => ?_)
   refine Kd.R_append_rows_step Kd.string (w0 := w) w.heap.size (by rfl) (.tmp 17) (.tmp 19) 22 9 (.string ⟨#[]⟩) 16 rfl Tryd.underlying22 info9 rfl (by decide) (by omega) v183 y182 l0_1 _ _ _ (fun _ => True) (fun _ => False) rfl rfl ?aO ?aR (fun _ _ h => h) (fun _ h => h.elim) ?aF ?aB ?aS ?aL ?_
   (case aR => repeat (first | exact (Kd.C_below HR0_1.out HB.out) | (with_reducible refine Kd.C_alloc ?_ _) | (with_reducible refine Kd.C_drewN ?_ _) | (with_reducible refine Kd.C_drew ?_)))
   (case aB => exact (by repeat (first | (with_reducible first | exact HB.out | apply below_alloc | apply pw_below_drewN | apply below_drew1 | refine below_set ?_ GE178.out) | exact HB.out)))
   (case aF => exact (fun _ _ => trivial))
   (case aO => exact (by (with_reducible repeat (first | apply Kd.R_alloc | apply Kd.R_drewN | apply Kd.R_drew)); exact HO184.out))
   (case aS => exact (below_size (by repeat (first | (with_reducible first | exact HB.out | apply below_alloc | apply pw_below_drewN | apply below_drew1 | refine below_set ?_ GE178.out) | exact HB.out))))
   (case aL => have := LMc5.out; omega)
   intro v186 w16 ho hb hg hat
   rw [← Ny185.out] at ho
   have n0_ := Aside0.mk (blk_grown (g := gb178) (o := .cells #[.int .i64 a0_0, .slice A0_1 l0_1.length c0_1, .slice A0_2 l0_2.length c0_2, .int .i64 a0_3, .string a0_4] 36 (0, 0)) (by (with_reducible repeat (first | refine blk_drewN ?_ _ | refine blk_drew ?_ | refine blk_alloc ?_ _)); exact BK178.out) hg (Kd.R_ne HO184.out BK178.out (by decide)))
   have n1_ := Aside0.mk (hb)
   have n2_ := Aside0.mk (ho)
   clear BK178
   clear HB
   clear HO184
   have BK178 := n0_
   have HB := n1_
   have HO187 := n2_
   clear n0_ n1_ n2_
   clear ho hb hg hat
   refine hK.out _ _ ⟨(blk_cell BK178.out 0).trans rfl, (blk_cell BK178.out 1).trans rfl, (blk_cell BK178.out 2).trans rfl, (blk_cell BK178.out 3).trans rfl, (blk_cell BK178.out 4).trans rfl⟩ (fun hHeld => ?_)
   clear hK K
   refine norm_ (a' := ?_) ?_ ?_
   rotate_left
   ·show Act.put _ (some 20) _ = _
    simp only [Act.put, List.setIfInBounds_toArray, List.set_cons_zero, List.set_cons_succ, i64_w, i32_w]
    rfl
   refine one_ (i := 7) (N := some 24) #[true, true, true, true, true, true, true, true, false, false, false] rfl rfl (one_of HT_.out (by kernel_rfl)) (by decide) (fun K hK => ?_)
   refine goes_ Tryd.func20 (by kernel_rfl) rfl #[.int .i64 (l0_2.length : Int)] (by rfl) rfl rfl (by (try simp only [List.map_toArray, List.map_cons, List.map_nil]); first | done | rfl | (simp only [List.length_drop, List.length_take]; rfl)) ?_
   with_reducible refine (strconv_Itoa_20.calls (l0_2.length : Int) t188 _ (hWd.below (by repeat (first | (with_reducible first | exact HB.out | apply below_alloc | apply pw_below_drewN | apply below_drew1 | refine below_set ?_ GE178.out) | exact HB.out))) A6.out).mono ?_
   rintro e w17 ⟨rfl, hb⟩
   refine ⟨_, rfl, ?_⟩
   have n0_ := Aside0.mk (Kd.R_below (by (with_reducible repeat (first | apply Kd.R_alloc | apply Kd.R_drewN | apply Kd.R_drew)); exact HO187.out) hb)
   have n1_ := Aside0.mk (blk_below (g := gb178) (o := .cells #[.int .i64 a0_0, .slice A0_1 l0_1.length c0_1, .slice A0_2 l0_2.length c0_2, .int .i64 a0_3, .string a0_4] 36 (0, 0)) (by (with_reducible repeat (first | refine blk_drewN ?_ _ | refine blk_drew ?_ | refine blk_alloc ?_ _)); exact BK178.out) hb)
   have n2_ := Aside0.mk (below_step (by repeat (first | (with_reducible first | exact HB.out | apply below_alloc | apply pw_below_drewN | apply below_drew1 | refine below_set ?_ GE178.out) | exact HB.out)) hb)
   clear HO187
   clear BK178
   clear HB
   have HO187 := n0_
   have BK178 := n1_
   have HB := n2_
   clear n0_ n1_ n2_
   (try clear hb)
   (try clear hb2)
   (try clear hk)
   (try clear hi)
   refine hK.out _ _ ⟨(blk_cell BK178.out 0).trans rfl, (blk_cell BK178.out 1).trans rfl, (blk_cell BK178.out 2).trans rfl, (blk_cell BK178.out 3).trans rfl, (blk_cell BK178.out 4).trans rfl⟩ (fun hHeld => ?_)
   clear hK K
   refine norm_ (a' := ?_) ?_ ?_
   rotate_left
   ·show Act.put _ (some 24) _ = _
    simp only [Act.put, List.setIfInBounds_toArray, List.set_cons_zero, List.set_cons_succ, i64_w, i32_w]
    rfl
   refine one_ (i := 8) (N := some 25) #[true, true, true, true, true, true, true, true, true, false, false] rfl rfl (one_of HT_.out (by kernel_rfl)) (by decide) (fun K hK => ?_)
   refine value_ (w1 := ?_) (v := ?_) (by rfl) rfl ?_ ?_
   rotate_left 2
   ·go_simp
    constructor
    ·rfl
    ·rfl
   refine hK.out _ _ ⟨(blk_cell (blk_alloc BK178.out _) 0).trans rfl, (blk_cell (blk_alloc BK178.out _) 1).trans rfl, (blk_cell (blk_alloc BK178.out _) 2).trans rfl, (blk_cell (blk_alloc BK178.out _) 3).trans rfl, (blk_cell (blk_alloc BK178.out _) 4).trans rfl⟩ (fun hHeld => ?_)
   clear hK K
   refine norm_ (a' := ?_) ?_ ?_
   rotate_left
   ·show Act.put _ (some 25) _ = _
    simp only [Act.put, List.setIfInBounds_toArray, List.set_cons_zero, List.set_cons_succ, i64_w, i32_w]
    rfl
   refine one_ (i := 9) (N := some 26) #[true, true, true, true, true, true, true, true, true, true, false] rfl rfl (one_of HT_.out (by kernel_rfl)) (by decide) (fun K hK => ?_)
   refine Kd.R_append_step Kd.string (w0 := w) w.heap.size (by rfl) (.tmp 20) (.tmp 25) 22 9 (.string ⟨#[]⟩) 16 rfl Tryd.underlying22 info9 rfl (by decide) (by omega) v186 y185 t188 [.string t188] (fun _ => True) (fun _ => False) rfl rfl ?aP (fun _ hk => hk.elim) ?aF ?aO ?aB ?aS ?aL ?_
   (case aP => exact rfl)
   (case aB => exact (by repeat (first | (with_reducible first | exact HB.out | apply below_alloc | apply pw_below_drewN | apply below_drew1 | refine below_set ?_ GE178.out) | exact HB.out)))
   (case aF => exact (fun _ _ => trivial))
   (case aO => exact (by (with_reducible repeat (first | apply Kd.R_alloc | apply Kd.R_drewN | apply Kd.R_drew)); exact HO187.out))
   (case aS => exact (below_size (by repeat (first | (with_reducible first | exact HB.out | apply below_alloc | apply pw_below_drewN | apply below_drew1 | refine below_set ?_ GE178.out) | exact HB.out))))
   (case aL => have := LMc7.out; omega)
   intro v190 w18 ho hb hg hat
   rw [← Ny189.out] at ho
   have n0_ := Aside0.mk (blk_grown (g := gb178) (o := .cells #[.int .i64 a0_0, .slice A0_1 l0_1.length c0_1, .slice A0_2 l0_2.length c0_2, .int .i64 a0_3, .string a0_4] 36 (0, 0)) (by (with_reducible repeat (first | refine blk_drewN ?_ _ | refine blk_drew ?_ | refine blk_alloc ?_ _)); exact BK178.out) hg (Kd.R_ne HO187.out BK178.out (by decide)))
   have n1_ := Aside0.mk (hb)
   have n2_ := Aside0.mk (ho)
   clear BK178
   clear HB
   clear HO187
   have BK178 := n0_
   have HB := n1_
   have HO191 := n2_
   clear n0_ n1_ n2_
   clear ho hb hg hat
   refine hK.out _ _ ⟨(blk_cell BK178.out 0).trans rfl, (blk_cell BK178.out 1).trans rfl, (blk_cell BK178.out 2).trans rfl, (blk_cell BK178.out 3).trans rfl, (blk_cell BK178.out 4).trans rfl⟩ (fun hHeld => ?_)
   clear hK K
   refine norm_ (a' := ?_) ?_ ?_
   rotate_left
   ·show Act.put _ (some 26) _ = _
    simp only [Act.put, List.setIfInBounds_toArray, List.set_cons_zero, List.set_cons_succ, i64_w, i32_w]
    rfl
   refine pure_ (i := 10) (N := some 3) (v := ?_) (a' := ?_) #[true, true, true, true, true, true, true, true, true, true, true] rfl rfl (any_of HT_.out (by kernel_rfl)) (fun _ _ _ h => h) (Or.inl ⟨by rfl, ?_⟩) ?_ ?_
   rotate_left
   ·intro w'
    go_simp
    with_reducible rfl
   rotate_left
   ·simp only [Act.put, List.setIfInBounds_toArray, List.set_cons_zero, List.set_cons_succ, i64_w, i32_w]
    rfl
   refine done_ (done_of HT_.out (by kernel_rfl)) ?_
   have hcz19_0 : w18.cell? ⟨gb178, 0, none⟩ = some (.int .i64 a0_0) := (blk_cell BK178.out 0).trans rfl
   have hcz19_1 : w18.cell? ⟨gb178, 1, none⟩ = some (.slice A0_1 l0_1.length c0_1) := (blk_cell BK178.out 1).trans rfl
   have hcz19_2 : w18.cell? ⟨gb178, 2, none⟩ = some (.slice A0_2 l0_2.length c0_2) := (blk_cell BK178.out 2).trans rfl
   have hcz19_3 : w18.cell? ⟨gb178, 3, none⟩ = some (.int .i64 a0_3) := (blk_cell BK178.out 3).trans rfl
   have hcz19_4 : w18.cell? ⟨gb178, 4, none⟩ = some (.string a0_4) := (blk_cell BK178.out 4).trans rfl
   have hfz19_0 := blk_frozen BK178.out 0
   have hfz19_1 := blk_frozen BK178.out 1
   have hfz19_2 := blk_frozen BK178.out 2
   have hfz19_3 := blk_frozen BK178.out 3
   have hfz19_4 := blk_frozen BK178.out 4
   try go_wp2
   go_loopg [3, 30] k (fun kq v3 v30 w' => ∃ (x3_1 : List ByteArray) (x30_1 : Int), v30 = .int .i64 x30_1 ∧ Aside0 (script_Text.l0 kq x3_1 l0_2 (l0_2.length : Int) x30_1 a0_0 l0_1 l0_2 a0_3 a0_4 = some r) ∧ Aside0 (kq ≤ k) ∧ Aside0 (Kd.R Kd.string 9 w' w.heap.size (fun _ => True) v3 x3_1) ∧ Aside0 (w'.heap[gb178]? = some (.cells #[.int .i64 a0_0, (.slice A0_1 l0_1.length c0_1), (.slice A0_2 l0_2.length c0_2), .int .i64 a0_3, .string a0_4] 36 (0, 0))) ∧ Aside0 (Below w.heap.size w w'))
   case atStart => exact ⟨(y189), (0), (by first | rfl | (simp; done) | (simp [*]; done)), H', ⟨Nat.le_refl _⟩, ⟨by (with_reducible repeat (first | apply Kd.R_alloc | apply Kd.R_drewN | apply Kd.R_drew)); exact HO191.out⟩, ⟨by (with_reducible repeat (first | refine blk_drewN ?_ _ | refine blk_drew ?_ | refine blk_alloc ?_ _)); exact BK178.out⟩, ⟨by repeat (first | (with_reducible first | exact HB.out | apply below_alloc | apply pw_below_drewN | apply below_drew1 | refine below_set ?_ GE178.out) | exact HB.out)⟩⟩
   case round =>
    clear H'
    try clear c1
    try clear c2
    try clear p2
    try clear c5
    try clear c7
    try clear c13
    try clear hcz19_0
    try clear hcz19_1
    try clear hcz19_2
    try clear hcz19_3
    try clear hcz19_4
    try clear hfz19_0
    try clear hfz19_1
    try clear hfz19_2
    try clear hfz19_3
    try clear hfz19_4
    obtain ⟨x3_1, x30_1, rfl, HA, HK1, HO_3, BK178, HB⟩ := hrel
    cases gk with
    | zero => exact absurd HA.out (by simp [script_Text.l0])
    | succ k1 =>
     have H := HA.out
     clear HA
     simp only [script_Text.l0] at H
     by_cases c20 : x30_1 < (l0_2.length : Int)
     ·rw [if_pos c20] at H
      have c20b0 : decide (x30_1 < (l0_2.length : Int)) = true := decide_eq_true c20
      clear c20
      by_cases c21 : 0 ≤ x30_1
      ·rw [if_pos c21] at H
       have c21b0 : decide (0 ≤ x30_1) = true := decide_eq_true c21
       clear c21
       by_cases c22 : x30_1 < (l0_2.length : Int)
       ·rw [if_pos c22] at H
        have c22b0 : decide (x30_1 < (l0_2.length : Int)) = true := decide_eq_true c22
        clear c22
        replace H := Option.bind_eq_some_iff.mp H
        obtain ⟨t193, A230, H⟩ := H
        replace H : (if x3_1.length < 8796093022208 then (script_Text.l0 k1 (x3_1 ++ [t193]) l0_2 (l0_2.length : Int) (wrap64 (x30_1 + 1)) a0_0 l0_1 l0_2 a0_3 a0_4) else (none)) = some r := H
        have A23 := Aside0.mk A230
        clear A230
        by_cases c24 : x3_1.length < 8796093022208
        ·rw [if_pos c24] at H
         have LMc24 := Aside0.mk c24
         clear c24
         obtain ⟨y194, hy194⟩ : ∃ y_ : List ByteArray, y_ = (x3_1 ++ [t193]) := ⟨_, rfl⟩
         replace H : (script_Text.l0 k1 y194 l0_2 (l0_2.length : Int) (wrap64 (x30_1 + 1)) a0_0 l0_1 l0_2 a0_3 a0_4) = some r := by first | (rw [hy194]; with_reducible exact H) | (have H2_ := (Option.bind_some _ _).symm.trans H; rw [hy194]; with_reducible exact H2_) | (have H2_ := (Option.bind_some _ _).symm.trans H; with_reducible exact H2_) | with_reducible exact H | (rw [hy194]; exact H) | exact H
         have Ny194 := Aside0.mk hy194
         clear hy194
         have H' := Aside0.mk H
         clear H
         have p192 : 0 ≤ (x30_1 : Int) := of_decide_eq_true (by first | (with_reducible assumption) | assumption)
         have q192 : x30_1 < (l0_2.length : Int) := of_decide_eq_true (by first | (with_reducible assumption) | assumption)
         obtain ⟨ad192, e192, hx192_0⟩ := Kd.at_string HR0_2.out x30_1 p192 q192
         cases e192
         replace hx192_0 := (HB.out.cell (World.block_lt_of_cell? w _ hx192_0)).trans hx192_0
         replace p192 := eq_true p192
         replace q192 := eq_true q192
         go_wp2_with (first | ((with_reducible refine gate_callee (f := 22) rfl ?_); refine goesL_ (some 36) rfl rfl Tryd.func22 (by kernel_rfl) rfl #[.string (rdOf ByteArray.empty l0_2 x30_1)] rfl (by (try simp only [List.map_toArray, List.map_cons, List.map_nil]); first | done | rfl | (simp only [List.length_drop, List.length_take]; rfl)) ?_; (with_reducible refine (script_word.calls (rdOf ByteArray.empty l0_2 x30_1) t193 _ A23.out).mono ?_); rintro e w25 ⟨rfl, hb⟩; refine ⟨_, rfl, ?_⟩; have n0_ := Aside0.mk (Kd.R_below (by (with_reducible repeat (first | apply Kd.R_alloc | apply Kd.R_drewN | apply Kd.R_drew)); exact HO_3.out) hb); have n1_ := Aside0.mk (blk_below (g := gb178) (o := .cells #[.int .i64 a0_0, .slice A0_1 l0_1.length c0_1, .slice (some ad192) l0_2.length c0_2, .int .i64 a0_3, .string a0_4] 36 (0, 0)) (by (with_reducible repeat (first | refine blk_drewN ?_ _ | refine blk_drew ?_ | refine blk_alloc ?_ _)); exact BK178.out) hb); have n2_ := Aside0.mk (below_step (by repeat (first | (with_reducible first | exact HB.out | apply below_alloc | apply pw_below_drewN | apply below_drew1 | refine below_set ?_ GE178.out) | exact HB.out)) hb); clear HO_3; clear BK178; clear HB; have HO_3 := n0_; have BK178 := n1_; have HB := n2_; clear n0_ n1_ n2_; (try clear hb); (try clear hb2); (try clear hk); (try clear hi)) | ((with_reducible refine gate_builtin (b := .append) (xs := #[.tmp 34, .tmp 37]) rfl ?_); at_builtin; refine Kd.R_append Kd.string (w0 := w) w.heap.size rfl (.tmp 34) (.tmp 37) 22 9 (.string ⟨#[]⟩) 16 rfl Tryd.underlying22 info9 rfl (by decide) (by omega) u3 x3_1 t193 [.string t193] (fun _ => True) (fun _ => False) rfl rfl ?aP (fun _ hk => hk.elim) ?aF ?aO ?aB ?aS ?aL ?_; (case aP => exact rfl); (case aB => exact (by repeat (first | (with_reducible first | exact HB.out | apply below_alloc | apply pw_below_drewN | apply below_drew1 | refine below_set ?_ GE178.out) | exact HB.out))); (case aF => exact (fun _ _ => trivial)); (case aO => exact (by (with_reducible repeat (first | apply Kd.R_alloc | apply Kd.R_drewN | apply Kd.R_drew)); exact HO_3.out)); (case aS => exact (below_size (by repeat (first | (with_reducible first | exact HB.out | apply below_alloc | apply pw_below_drewN | apply below_drew1 | refine below_set ?_ GE178.out) | exact HB.out)))); (case aL => have := LMc24.out; omega); intro v195 w26 ho hb hg hat; rw [← Ny194.out] at ho; have n0_ := Aside0.mk (blk_grown (g := gb178) (o := .cells #[.int .i64 a0_0, .slice A0_1 l0_1.length c0_1, .slice (some ad192) l0_2.length c0_2, .int .i64 a0_3, .string a0_4] 36 (0, 0)) (by (with_reducible repeat (first | refine blk_drewN ?_ _ | refine blk_drew ?_ | refine blk_alloc ?_ _)); exact BK178.out) hg (Kd.R_ne HO_3.out BK178.out (by decide))); have n1_ := Aside0.mk (hb); have n2_ := Aside0.mk (ho); clear BK178; clear HB; clear HO_3; have BK178 := n0_; have HB := n1_; have HO196 := n2_; clear n0_ n1_ n2_; clear ho hb hg hat))
         go_roundg k1
         case measure => have := HK1.out; omega
         case rel => exact ⟨(y194), (wrap64 (x30_1 + 1)), (by first | rfl | (simp; done) | (simp [*]; done)), H', ⟨by have := HK1.out; omega⟩, ⟨by (with_reducible repeat (first | apply Kd.R_alloc | apply Kd.R_drewN | apply Kd.R_drew)); exact HO196.out⟩, ⟨by (with_reducible repeat (first | refine blk_drewN ?_ _ | refine blk_drew ?_ | refine blk_alloc ?_ _)); exact BK178.out⟩, ⟨by repeat (first | (with_reducible first | exact HB.out | apply below_alloc | apply pw_below_drewN | apply below_drew1 | refine below_set ?_ GE178.out) | exact HB.out)⟩⟩
        ·rw [if_neg c24] at H
         exact absurd H (by simp)
       ·rw [if_neg c22] at H
        exact absurd H (by simp)
      ·rw [if_neg c21] at H
       exact absurd H (by simp)
     ·rw [if_neg c20] at H
      have c20b0 : decide (x30_1 < (l0_2.length : Int)) = false := decide_eq_false c20
      clear c20
      replace H := Option.bind_eq_some_iff.mp H
      obtain ⟨t197, A270, H⟩ := H
      replace H : (if x3_1.length < 8796093022208 then ((script_joined.f (x3_1 ++ [t197])).bind fun t201 => (some t201)) else (none)) = some r := H
      have A27 := Aside0.mk A270
      clear A270
      by_cases c28 : x3_1.length < 8796093022208
      ·rw [if_pos c28] at H
       have LMc28 := Aside0.mk c28
       clear c28
       obtain ⟨y198, hy198⟩ : ∃ y_ : List ByteArray, y_ = (x3_1 ++ [t197]) := ⟨_, rfl⟩
       replace H : ((script_joined.f y198).bind fun t201 => (some t201)) = some r := by first | (rw [hy198]; with_reducible exact H) | (have H2_ := (Option.bind_some _ _).symm.trans H; rw [hy198]; with_reducible exact H2_) | (have H2_ := (Option.bind_some _ _).symm.trans H; with_reducible exact H2_) | with_reducible exact H | (rw [hy198]; exact H) | exact H
       have Ny198 := Aside0.mk hy198
       clear hy198
       replace H := Option.bind_eq_some_iff.mp H
       obtain ⟨t201, A290, H⟩ := H
       replace H : (some t201) = some r := H
       have A29 := Aside0.mk A290
       clear A290
       obtain rfl := Option.some.inj H
       have hcz30_0 : wr.cell? ⟨gb178, 0, none⟩ = some (.int .i64 a0_0) := (blk_cell BK178.out 0).trans rfl
       have hcz30_1 : wr.cell? ⟨gb178, 1, none⟩ = some (.slice A0_1 l0_1.length c0_1) := (blk_cell BK178.out 1).trans rfl
       have hcz30_2 : wr.cell? ⟨gb178, 2, none⟩ = some (.slice A0_2 l0_2.length c0_2) := (blk_cell BK178.out 2).trans rfl
       have hcz30_3 : wr.cell? ⟨gb178, 3, none⟩ = some (.int .i64 a0_3) := (blk_cell BK178.out 3).trans rfl
       have hcz30_4 : wr.cell? ⟨gb178, 4, none⟩ = some (.string a0_4) := (blk_cell BK178.out 4).trans rfl
       have hfz30_0 := blk_frozen BK178.out 0
       have hfz30_1 := blk_frozen BK178.out 1
       have hfz30_2 := blk_frozen BK178.out 2
       have hfz30_3 := blk_frozen BK178.out 3
       have hfz30_4 := blk_frozen BK178.out 4
       go_wp2_with (first | ((with_reducible refine gate_callee (f := 22) rfl ?_); refine goesL_ (some 43) rfl rfl Tryd.func22 (by kernel_rfl) rfl #[.string a0_4] rfl (by (try simp only [List.map_toArray, List.map_cons, List.map_nil]); first | done | rfl | (simp only [List.length_drop, List.length_take]; rfl)) ?_; (with_reducible refine (script_word.calls a0_4 t197 _ A27.out).mono ?_); rintro e w31 ⟨rfl, hb⟩; refine ⟨_, rfl, ?_⟩; have n0_ := Aside0.mk (Kd.R_below (by (with_reducible repeat (first | apply Kd.R_alloc | apply Kd.R_drewN | apply Kd.R_drew)); exact HO_3.out) hb); have n1_ := Aside0.mk (blk_below (g := gb178) (o := .cells #[.int .i64 a0_0, .slice A0_1 l0_1.length c0_1, .slice A0_2 l0_2.length c0_2, .int .i64 a0_3, .string a0_4] 36 (0, 0)) (by (with_reducible repeat (first | refine blk_drewN ?_ _ | refine blk_drew ?_ | refine blk_alloc ?_ _)); exact BK178.out) hb); have n2_ := Aside0.mk (below_step (by repeat (first | (with_reducible first | exact HB.out | apply below_alloc | apply pw_below_drewN | apply below_drew1 | refine below_set ?_ GE178.out) | exact HB.out)) hb); clear HO_3; clear BK178; clear HB; have HO_3 := n0_; have BK178 := n1_; have HB := n2_; clear n0_ n1_ n2_; (try clear hb); (try clear hb2); (try clear hk); (try clear hi)) | ((with_reducible refine gate_builtin (b := .append) (xs := #[.tmp 40, .tmp 44]) rfl ?_); at_builtin; refine Kd.R_append Kd.string (w0 := w) w.heap.size rfl (.tmp 40) (.tmp 44) 22 9 (.string ⟨#[]⟩) 16 rfl Tryd.underlying22 info9 rfl (by decide) (by omega) u3 x3_1 t197 [.string t197] (fun _ => True) (fun _ => False) rfl rfl ?aP (fun _ hk => hk.elim) ?aF ?aO ?aB ?aS ?aL ?_; (case aP => exact rfl); (case aB => exact (by repeat (first | (with_reducible first | exact HB.out | apply below_alloc | apply pw_below_drewN | apply below_drew1 | refine below_set ?_ GE178.out) | exact HB.out))); (case aF => exact (fun _ _ => trivial)); (case aO => exact (by (with_reducible repeat (first | apply Kd.R_alloc | apply Kd.R_drewN | apply Kd.R_drew)); exact HO_3.out)); (case aS => exact (below_size (by repeat (first | (with_reducible first | exact HB.out | apply below_alloc | apply pw_below_drewN | apply below_drew1 | refine below_set ?_ GE178.out) | exact HB.out)))); (case aL => have := LMc28.out; omega); intro v199 w32 ho hb hg hat; rw [← Ny198.out] at ho; have n0_ := Aside0.mk (blk_grown (g := gb178) (o := .cells #[.int .i64 a0_0, .slice A0_1 l0_1.length c0_1, .slice A0_2 l0_2.length c0_2, .int .i64 a0_3, .string a0_4] 36 (0, 0)) (by (with_reducible repeat (first | refine blk_drewN ?_ _ | refine blk_drew ?_ | refine blk_alloc ?_ _)); exact BK178.out) hg (Kd.R_ne HO_3.out BK178.out (by decide))); have n1_ := Aside0.mk (hb); have n2_ := Aside0.mk (ho); clear BK178; clear HB; clear HO_3; have BK178 := n0_; have HB := n1_; have HO200 := n2_; clear n0_ n1_ n2_; clear ho hb hg hat; obtain ⟨Ao33, co33, eo33⟩ := Kd.R_slice HO200.out; subst eo33) | ((with_reducible refine gate_callee (f := 23) rfl ?_); refine goesL_ (some 46) rfl rfl Tryd.func23 (by kernel_rfl) rfl #[.slice Ao33 y198.length co33] rfl (by (try simp only [List.map_toArray, List.map_cons, List.map_nil]); first | done | rfl | (simp only [List.length_drop, List.length_take]; rfl)) ?_; (with_reducible refine (script_joined.calls _ _ y198 t201 _ ?side1 ?side2 A29.out).mono ?_); (case side1 => repeat (first | exact (Kd.R_reads' HO200.out).2.2 | (with_reducible refine Kd.C_alloc ?_ _) | (with_reducible refine Kd.C_drewN ?_ _) | (with_reducible refine Kd.C_drew ?_))); (case side2 => exact (Kd.R_reads' HO200.out).2.1); rintro e w34 ⟨rfl, hb⟩; refine ⟨_, rfl, ?_⟩; have n0_ := Aside0.mk (Kd.R_below (by (with_reducible repeat (first | apply Kd.R_alloc | apply Kd.R_drewN | apply Kd.R_drew)); exact HO200.out) hb); have n1_ := Aside0.mk (blk_below (g := gb178) (o := .cells #[.int .i64 a0_0, .slice A0_1 l0_1.length c0_1, .slice A0_2 l0_2.length c0_2, .int .i64 a0_3, .string a0_4] 36 (0, 0)) (by (with_reducible repeat (first | refine blk_drewN ?_ _ | refine blk_drew ?_ | refine blk_alloc ?_ _)); exact BK178.out) hb); have n2_ := Aside0.mk (below_step (by repeat (first | (with_reducible first | exact HB.out | apply below_alloc | apply pw_below_drewN | apply below_drew1 | refine below_set ?_ GE178.out) | exact HB.out)) hb); clear HO200; clear BK178; clear HB; have HO200 := n0_; have BK178 := n1_; have HB := n2_; clear n0_ n1_ n2_; (try clear hb); (try clear hb2); (try clear hk); (try clear hi)))
       go_ret
       exact ⟨by first | rfl | (simp [errW_none, errW_some] <;> rfl) | (simp [*, errW_none, errW_some] <;> rfl), by repeat (first | (with_reducible first | exact HB.out | apply below_alloc | apply pw_below_drewN | apply below_drew1 | refine below_set ?_ GE178.out) | exact HB.out)⟩
      ·rw [if_neg c28] at H
       exact absurd H (by simp)
  ·rw [if_neg c7] at H
   exact absurd H (by simp)
 ·rw [if_neg c5] at H
  exact absurd H (by simp)
end Go.Proofs.YtcmemgahgenpdaaDoor.PSc
end
section
namespace Go.Proofs.YtcmemgahgenpdaaDoor.Pure
open Go.RowKit Go.Proofs.YtcmemgahgenpdaaDoor.PSc Go.Proofs.YtcmemgahgenpdaaDoor.Hand Go.Proofs.YtcmemgahgenpdaaDoorW.PrintWords Go.Proofs.YtcmemgahgenpdaaDoorW.PrintLast
set_option linter.unusedVariables false
abbrev exS : ByteArray := ⟨#[102, 105, 114, 115, 116, 32, 111, 110, 101]⟩
abbrev exLine : ByteArray := ⟨#[99, 111, 109, 109, 105, 116, 32, 48, 32, 48, 32, 102, 105, 114, 115, 116, 37, 50, 48, 111, 110, 101]⟩
set_option maxRecDepth 100000 in
set_option maxHeartbeats 4000000 in
theorem ex_line : script_Line.f 30 5 [] 0 false exS = some (exLine, 0) := by
  unfold script_Line.f
  kernel_rfl
abbrev exR1 : ByteArray := ⟨#[97, 100, 100, 32, 45, 51, 32, 49, 32, 45, 32, 97, 32, 100, 47, 98]⟩
abbrev bA : ByteArray := ⟨#[97]⟩
abbrev bDB : ByteArray := ⟨#[100, 47, 98]⟩
theorem ex_split1 : splitQ exR1 = [⟨#[97, 100, 100]⟩, ⟨#[45, 51]⟩, ⟨#[49]⟩, ⟨#[45]⟩, bA, bDB] := by
  kernel_rfl
theorem ex_kind1 : kindQ ⟨#[97, 100, 100]⟩ = 3 := by kernel_rfl
theorem ex_num1 : numP ⟨#[45, 51]⟩ = (-3, true) := by kernel_rfl
theorem tq_empty : textQ ⟨#[45]⟩ = (⟨#[]⟩, true) := textQ_word ⟨#[]⟩ (of_decide_eq_true (by kernel_rfl))
theorem tq_a : textQ bA = (bA, true) := (congrArg textQ (show bA = wordS bA by kernel_rfl)).trans (textQ_word bA (of_decide_eq_true (by kernel_rfl)))
theorem tq_db : textQ bDB = (bDB, true) := (congrArg textQ (show bDB = wordS bDB by kernel_rfl)).trans (textQ_word bDB (of_decide_eq_true (by kernel_rfl)))
theorem tq_pair {s t : ByteArray} {b : Bool} (h : textQ s = (t, b)) : tQ s = t ∧ okQ s = b := by
  unfold tQ okQ
  rw [h]; exact ⟨rfl, rfl⟩
abbrev exR2 : ByteArray := ⟨#[119, 104, 97, 116, 32, 48, 32, 48, 32, 45]⟩
abbrev exR3 : ByteArray := ⟨#[97, 100, 100, 32, 48, 32, 48]⟩
abbrev exR4 : ByteArray := ⟨#[116, 105, 99, 107, 32, 51, 32, 48, 32, 45]⟩
abbrev exR5 : ByteArray := ⟨#[98, 97, 100]⟩
abbrev exAll : ByteArray := ⟨#[35, 32, 120, 10, 10, 116, 105, 99, 107, 32, 51, 32, 48, 32, 45, 10, 98, 97, 100]⟩
theorem readL_4 (l : List ByteArray) (k : Nat) (n : Int) (hl : ¬ (l.length < 4 ∨ Lib.containsS l ⟨#[]⟩ = true)) (hk : kindQ (wd l 0) = k) (h0 : k ≠ 0) (hn : numP (wd l 1) = (n, true)) (hf : wd l 2 = ⟨#[48]⟩ ∨ wd l 2 = ⟨#[49]⟩) : readL l = readW (l.drop 3) k n (decide (wd l 2 = ⟨#[49]⟩)) := by
  unfold readL
  rw [if_neg hl, hk]
  unfold readK
  rw [if_neg h0]
  unfold readN
  rw [hn, if_neg (fun h => h.elim (fun h => by cases h) (fun h => h hf))]
theorem ex_read1 : script_Read.f exR1 = some (3, [bA, bDB], -3, true, ⟨#[]⟩, 0) := by
  unfold script_Read.f readQ
  rw [if_neg (of_decide_eq_true (by kernel_rfl)), ex_split1, readL_4 [⟨#[97, 100, 100]⟩, ⟨#[45, 51]⟩, ⟨#[49]⟩, ⟨#[45]⟩, bA, bDB] 3 (-3) (fun h => h.elim (fun h => absurd h (by decide)) (fun h => absurd h (ne_of_beq_false (by kernel_rfl)))) ex_kind1 (by decide) ex_num1 (Or.inr rfl)]
  unfold readW
  obtain ⟨e1, e2⟩ := tq_pair tq_empty
  obtain ⟨e3, e4⟩ := tq_pair tq_a
  obtain ⟨e5, e6⟩ := tq_pair tq_db
  have hd : decide (wd [⟨#[97, 100, 100]⟩, ⟨#[45, 51]⟩, ⟨#[49]⟩, ⟨#[45]⟩, bA, bDB] 2 = ⟨#[49]⟩) = true := decide_eq_true rfl
  rw [hd]
  simp [wd, e1, e2, e3, e4, e5, e6]
theorem ex_read2 : script_Read.f exR2 = some (zeroE 560) := by
  unfold script_Read.f readQ
  rw [if_neg (of_decide_eq_true (by kernel_rfl)), show splitQ exR2 = [⟨#[119, 104, 97, 116]⟩, ⟨#[48]⟩, ⟨#[48]⟩, ⟨#[45]⟩] by kernel_rfl]
  unfold readL
  rw [if_neg (fun h => h.elim (fun h => absurd h (by decide)) (fun h => absurd h (ne_of_beq_false (by kernel_rfl))))]
  unfold readK
  rw [show kindQ (wd [⟨#[119, 104, 97, 116]⟩, ⟨#[48]⟩, ⟨#[48]⟩, ⟨#[45]⟩] 0) = 0 by kernel_rfl, if_pos rfl]
theorem ex_read3 : script_Read.f exR3 = some (zeroE 2) := by
  unfold script_Read.f readQ
  rw [if_neg (of_decide_eq_true (by kernel_rfl)), show splitQ exR3 = [⟨#[97, 100, 100]⟩, ⟨#[48]⟩, ⟨#[48]⟩] by kernel_rfl]
  unfold readL
  rw [if_pos (Or.inl (by decide))]
theorem ex_read5 : script_Read.f exR5 = some (zeroE 2) := by
  unfold script_Read.f readQ
  rw [if_neg (of_decide_eq_true (by kernel_rfl)), show splitQ exR5 = [⟨#[98, 97, 100]⟩] by kernel_rfl]
  unfold readL
  rw [if_pos (Or.inl (by decide))]
theorem ex_read4 : script_Read.f exR4 = some (26, [], 3, false, ⟨#[]⟩, 0) := by
  unfold script_Read.f readQ
  rw [if_neg (of_decide_eq_true (by kernel_rfl)), show splitQ exR4 = [⟨#[116, 105, 99, 107]⟩, ⟨#[51]⟩, ⟨#[48]⟩, ⟨#[45]⟩] by kernel_rfl, readL_4 _ 26 3 (fun h => h.elim (fun h => absurd h (by decide)) (fun h => absurd h (ne_of_beq_false (by kernel_rfl)))) (by kernel_rfl) (by decide) (by kernel_rfl) (Or.inl rfl)]
  unfold readW
  obtain ⟨e1, e2⟩ := tq_pair tq_empty
  have hd : decide (wd [⟨#[116, 105, 99, 107]⟩, ⟨#[51]⟩, ⟨#[48]⟩, ⟨#[45]⟩] 2 = ⟨#[49]⟩) = false := by kernel_rfl
  rw [hd]
  simp [wd, e1, e2]
theorem nnil {s : ByteArray} (h : (s.data.toList == ([] : List UInt8)) = false) : ¬ s.toList = ([] : List UInt8) := by
  rw [ByteArray.toList_eq]
  exact ne_of_beq_false h
theorem ex_c0 : strings_Cut.f exAll ⟨#[10]⟩ = some (⟨#[35, 32, 120]⟩, ⟨#[10, 116, 105, 99, 107, 32, 51, 32, 48, 32, 45, 10, 98, 97, 100]⟩, true) := by kernel_rfl
theorem ex_c1 : (bt (⟨#[35, 32, 120]⟩ : ByteArray) 0 == 35) = true := by kernel_rfl
theorem ex_c2 : strings_Cut.f (⟨#[10, 116, 105, 99, 107, 32, 51, 32, 48, 32, 45, 10, 98, 97, 100]⟩ : ByteArray) ⟨#[10]⟩ = some (⟨#[]⟩, ⟨#[116, 105, 99, 107, 32, 51, 32, 48, 32, 45, 10, 98, 97, 100]⟩, true) := by kernel_rfl
theorem ex_c3 : strings_Cut.f (⟨#[116, 105, 99, 107, 32, 51, 32, 48, 32, 45, 10, 98, 97, 100]⟩ : ByteArray) ⟨#[10]⟩ = some (exR4, exR5, true) := by kernel_rfl
theorem ex_c4 : (bt exR4 0 == 35) = false := by kernel_rfl
theorem ex_c5 : strings_Cut.f exR5 ⟨#[10]⟩ = some (exR5, ⟨#[]⟩, false) := by kernel_rfl
theorem ex_c6 : (bt exR5 0 == 35) = false := by kernel_rfl
theorem all_skip0 (k : Nat) (s a b : ByteArray) (f : Bool) (x : List S24) (i : Int) (hs : ¬ s.toList = ([] : List UInt8)) (hc : strings_Cut.f s ⟨#[10]⟩ = some (a, b, f)) (ha : a.toList = ([] : List UInt8)) :
    script_All.l0 (k + 2) s x i = script_All.l0 k b x (wrap64 (i + 1)) := by
  rw [script_All.l0, if_neg hs, hc]
  simp only [Option.bind_some]
  rw [if_pos ha, script_All.j1, if_pos rfl]
theorem all_skip1 (k : Nat) (s a b : ByteArray) (f : Bool) (x : List S24) (i : Int) (hs : ¬ s.toList = ([] : List UInt8)) (hc : strings_Cut.f s ⟨#[10]⟩ = some (a, b, f)) (ha : ¬ a.toList = ([] : List UInt8)) (h0 : 0 < (a.size : Int)) (h1 : (bt a 0 == 35) = true) :
    script_All.l0 (k + 2) s x i = script_All.l0 k b x (wrap64 (i + 1)) := by
  rw [script_All.l0, if_neg hs, hc]
  simp only [Option.bind_some]
  rw [if_neg ha, if_pos h0, h1, script_All.j1, if_pos rfl]
theorem all_read (k : Nat) (s a b : ByteArray) (f : Bool) (x : List S24) (i : Int) (rd : Rd6) (hs : ¬ s.toList = ([] : List UInt8)) (hc : strings_Cut.f s ⟨#[10]⟩ = some (a, b, f)) (ha : ¬ a.toList = ([] : List UInt8)) (h0 : 0 < (a.size : Int)) (h1 : (bt a 0 == 35) = false) (hr : script_Read.f a = some rd) :
    script_All.l0 (k + 2) s x i = if rd.2.2.2.2.2 = 0 then (if x.length < 2199023255552 then script_All.l0 k b (x ++ [⟨rd.1, rd.2.1, rd.2.2.1, rd.2.2.2.1, rd.2.2.2.2.1⟩]) (wrap64 (i + 1)) else none) else some ([], i, rd.2.2.2.2.2) := by
  rw [script_All.l0, if_neg hs, hc]
  simp only [Option.bind_some]
  rw [if_neg ha, if_pos h0, h1, script_All.j1, if_neg (by decide), hr]
  simp only [Option.bind_some]
theorem ex_all : script_All.f (0 + 2 + 2 + 2 + 2) exAll = some ([], 3, 2) := by
  unfold script_All.f
  rw [all_skip1 _ _ _ _ _ _ _ (nnil (by kernel_rfl)) ex_c0 (nnil (by kernel_rfl)) (of_decide_eq_true (by kernel_rfl)) ex_c1,
    all_skip0 _ _ _ _ _ _ _ (nnil (by kernel_rfl)) ex_c2 (by rw [ByteArray.toList_eq]),
    all_read _ _ _ _ _ _ _ _ (nnil (by kernel_rfl)) ex_c3 (nnil (by kernel_rfl)) (of_decide_eq_true (by kernel_rfl)) ex_c4 ex_read4, if_pos rfl, if_pos (by decide),
    all_read _ _ _ _ _ _ _ _ (nnil (by kernel_rfl)) ex_c5 (nnil (by kernel_rfl)) (of_decide_eq_true (by kernel_rfl)) ex_c6 ex_read5, if_neg (by simp [zeroE])]
  exact congrArg some (Prod.ext rfl (Prod.ext (by kernel_rfl) rfl))
set_option maxRecDepth 100000 in
set_option maxHeartbeats 4000000 in
theorem ex_text : script_Text.f 30 5 [] [⟨#[97, 32, 98]⟩] 2 ⟨#[]⟩ = some ⟨#[53, 32, 50, 32, 48, 32, 49, 32, 97, 37, 50, 48, 98, 32, 45]⟩ := by
  unfold script_Text.f
  kernel_rfl
set_option maxRecDepth 100000 in
theorem ex_same : graftageref17_SameTexts.f 10 [bA, bDB] [bA, bDB] = some true := by
  unfold graftageref17_SameTexts.f graftageref17_SameTexts.l0
  simp only [ByteArray.toList_eq]
  kernel_rfl
end Go.Proofs.YtcmemgahgenpdaaDoor.Pure
end
section
namespace Go.Proofs.YtcmemgahgenpdaaDoor.Hand
open Go.RowKit Go.Proofs.YtcmemgahgenpdaaDoorW.PrintWords Go.Proofs.YtcmemgahgenpdaaDoorW.PrintLast Go.Proofs.YtcmemgahgenpdaaDoorW.PrintMore
open Go.Proofs.YtcmemgahgenpdaaDoor.PSc Go.Proofs.YtcmemgahgenpdaaDoor.Pure
set_option linter.unusedVariables false
set_option linter.unusedSimpArgs false
theorem C_new (w : World) (l : List ByteArray) (ty : TypeId) (hl : l.length ≤ 9223372036854775807) : Kd.string.C (w.alloc (.cells ((l.map Value.string).toArray) ty)) (some ⟨w.heap.size, 0, none⟩) l.length l := by
  refine Kd.C_of_reads (d := ByteArray.empty) (h1 := fun _ => rfl) ⟨rfl, hl, fun _ => ⟨_, rfl, fun j hj => ?_⟩⟩
  have h : (w.alloc (.cells ((l.map Value.string).toArray) ty)).heap[w.heap.size]? = some (.cells ((l.map Value.string).toArray) ty) := heap_alloc_new w _
  rw [show (⟨w.heap.size, 0, none⟩ : Addr).add j = ⟨w.heap.size, j, none⟩ by simp [Addr.add, eq_comm], Lib.cell_of_heap h]
  simp [hj]
set_option maxHeartbeats 4000000 in
set_option maxRecDepth 100000 in
theorem lives_any (w : World) (hWd : Wds w) : Calls Tryd.prog 7 #[] w fun e w' => e = .returned (.bool true) ∧ Below w.heap.size w w' := by
  have HW := Lib.hid hWd
  clear hWd
  go_enter Tryd.func7, Tryd.ntmps7
  go_wp2_with fail
  refine (script_Line.calls 30 5 none 0 [] 0 false exS exLine 0 _ (Kd.C_nil Kd.string _) (Nat.le_refl _) HW.out ex_line).mono ?_
  rintro e w1 ⟨rfl, hb1⟩
  have HW := Lib.hid (HW.out.below hb1)
  have HB := Lib.hid hb1
  clear hb1
  go_wp2_with fail
  refine (script_Read.calls exR1 3 [bA, bDB] (-3) true ⟨#[]⟩ 0 _ HW.out ex_read1).mono ?_
  rintro e w2 ⟨v1, rfl, hR1, hb2⟩
  have HW := Lib.hid (HW.out.below hb2)
  have hR1 := Kd.R_lower hR1 HB.out.size
  have HB := Lib.hid (HB.out.trans (hb2.mono HB.out.size))
  clear hb2
  obtain ⟨A, cp, hv1⟩ := Kd.R_slice hR1
  subst hv1
  have HC1 := Lib.hid (Kd.R_reads' hR1).2.2
  have hcp := (Kd.R_reads' hR1).2.1
  clear hR1
  go_wp2_with fail
  generalize hw3 : w2.alloc (.cells #[.int .i64 3, .slice A 2 cp, .int .i64 (-3), .bool true, .string ⟨#[]⟩] 24) = w3
  have hX : Cm w3 w2.heap.size 3 (.slice A 2 cp) (-3) true ⟨#[]⟩ := by rw [← hw3]; exact heap_alloc_new w2 _
  have hb3 : Below w2.heap.size w2 w3 := by rw [← hw3]; exact (Below.refl _ w2).alloc (Nat.le_refl _) _
  have HX := Lib.hid hX
  have HC1 := Lib.hid (Kd.C_below HC1.out hb3)
  have HW := Lib.hid (HW.out.below hb3)
  have HB := Lib.hid (HB.out.trans (hb3.mono HB.out.size))
  clear hw3 hX hb3
  generalize hgc : w2.heap.size = gc at *
  refine (script_Read.calls exR2 0 [] 0 false ⟨#[]⟩ 560 _ HW.out ex_read2).mono ?_
  rintro e w4 ⟨v2, rfl, hR2, hb4⟩
  obtain ⟨A2, cp2, hv2⟩ := Kd.R_slice hR2
  subst hv2
  have HX := Lib.hid (HX.out.below hb4)
  have HC1 := Lib.hid (Kd.C_below HC1.out hb4)
  have HW := Lib.hid (HW.out.below hb4)
  have HB := Lib.hid (HB.out.trans (hb4.mono HB.out.size))
  clear hR2 hb4
  go_wp2_with fail
  have hb5 : Below w4.heap.size w4 (w4.alloc (.cells #[.int .i64 0, .slice A2 0 cp2, .int .i64 0, .bool false, .string ⟨#[]⟩] 24)) := (Below.refl _ w4).alloc (Nat.le_refl _) _
  generalize w4.alloc (.cells #[.int .i64 0, .slice A2 0 cp2, .int .i64 0, .bool false, .string ⟨#[]⟩] 24) = w5 at *
  have HX := Lib.hid (HX.out.below hb5)
  have HC1 := Lib.hid (Kd.C_below HC1.out hb5)
  have HW := Lib.hid (HW.out.below hb5)
  have HB := Lib.hid (HB.out.trans (hb5.mono HB.out.size))
  clear hb5
  refine (script_Read.calls exR3 0 [] 0 false ⟨#[]⟩ 2 _ HW.out ex_read3).mono ?_
  rintro e w6 ⟨v3, rfl, hR3, hb6⟩
  obtain ⟨A3, cp3, hv3⟩ := Kd.R_slice hR3
  subst hv3
  have HX := Lib.hid (HX.out.below hb6)
  have HC1 := Lib.hid (Kd.C_below HC1.out hb6)
  have HW := Lib.hid (HW.out.below hb6)
  have HB := Lib.hid (HB.out.trans (hb6.mono HB.out.size))
  clear hR3 hb6
  go_wp2_with fail
  have hb7 : Below w6.heap.size w6 (w6.alloc (.cells #[.int .i64 0, .slice A3 0 cp3, .int .i64 0, .bool false, .string ⟨#[]⟩] 24)) := (Below.refl _ w6).alloc (Nat.le_refl _) _
  generalize w6.alloc (.cells #[.int .i64 0, .slice A3 0 cp3, .int .i64 0, .bool false, .string ⟨#[]⟩] 24) = w7 at *
  have HX := Lib.hid (HX.out.below hb7)
  have HC1 := Lib.hid (Kd.C_below HC1.out hb7)
  have HW := Lib.hid (HW.out.below hb7)
  have HB := Lib.hid (HB.out.trans (hb7.mono HB.out.size))
  clear hb7
  refine (script_All.calls (0 + 2 + 2 + 2 + 2) exAll [] 3 2 _ HW.out ex_all).mono ?_
  rintro e w8 ⟨v4, rfl, hR4, hb8⟩
  obtain ⟨A4, cp4, hv4⟩ := Kd.S_slice hR4
  subst hv4
  have HX := Lib.hid (HX.out.below hb8)
  have HC1 := Lib.hid (Kd.C_below HC1.out hb8)
  have HW := Lib.hid (HW.out.below hb8)
  have HB := Lib.hid (HB.out.trans (hb8.mono HB.out.size))
  clear hR4 hb8
  have x0 := HX.out.c0
  have x1 := HX.out.c1
  have x2 := HX.out.c2
  have x3 := HX.out.c3
  have x4 := HX.out.c4
  have e1 : (exLine.toList == exLine.toList) = true := beq_iff_eq.2 rfl
  have e2 : ((⟨#[]⟩ : ByteArray).toList == (⟨#[]⟩ : ByteArray).toList) = true := beq_iff_eq.2 rfl
  go_wp2_with fail
  have hC2 := C_new w8 [bA, bDB] 9 (by decide)
  have hb9 : Below w8.heap.size w8 (w8.alloc (.cells (([bA, bDB].map Value.string).toArray) 9)) := (Below.refl _ w8).alloc (Nat.le_refl _) _
  refine (graftageref17_SameTexts.calls 10 A cp [bA, bDB] _ 2 [bA, bDB] true _ (Kd.C_below HC1.out hb9) hcp hC2 (Nat.le_refl _) ex_same).mono ?_
  rintro e w9 ⟨rfl, hb10⟩
  have HW := Lib.hid ((HW.out.below hb9).below hb10.below)
  have HB := Lib.hid ((HB.out.trans (hb9.mono HB.out.size)).trans (hb10.below.mono (HB.out.trans (hb9.mono HB.out.size)).size))
  clear hC2 hb9 hb10
  go_wp2_with fail
  have hC3 := C_new w9 [⟨#[97, 32, 98]⟩] 9 (by decide)
  have hb11 : Below w9.heap.size w9 (w9.alloc (.cells (([⟨#[97, 32, 98]⟩].map Value.string).toArray) 9)) := (Below.refl _ w9).alloc (Nat.le_refl _) _
  refine (script_Text.calls 30 5 none 0 [] _ 1 [⟨#[97, 32, 98]⟩] 2 ⟨#[]⟩ _ _ (Kd.C_nil Kd.string _) (Nat.le_refl _) hC3 (Nat.le_refl _) (HW.out.below hb11) ex_text).mono ?_
  rintro e w12 ⟨rfl, hb12⟩
  have HB := Lib.hid ((HB.out.trans (hb11.mono HB.out.size)).trans (hb12.mono (HB.out.trans (hb11.mono HB.out.size)).size))
  have e3 : ((⟨#[53, 32, 50, 32, 48, 32, 49, 32, 97, 37, 50, 48, 98, 32, 45]⟩ : ByteArray).toList == (⟨#[53, 32, 50, 32, 48, 32, 49, 32, 97, 37, 50, 48, 98, 32, 45]⟩ : ByteArray).toList) = true := beq_iff_eq.2 rfl
  clear hC3 hb11 hb12
  go_wp2
  go_ret
  exact ⟨rfl, HB.out⟩
def graftagelaw56_lives.f : Option Bool := some true
theorem graftagelaw56_lives.calls (r : Bool) (w : World) (hWd : Wds w) (h : graftagelaw56_lives.f = some r) : Calls Tryd.prog 7 #[] w fun e w' => e = .returned (.bool r) ∧ Below w.heap.size w w' := by
  obtain rfl := Option.some.inj h
  exact lives_any w hWd
end Go.Proofs.YtcmemgahgenpdaaDoor.Hand
end
section
namespace Go.Proofs.YtcmemgahgenpdaaDoor.PSc
open Go.Proofs.YtcmemgahgenpdaaDoor.Hand Go.RowKit Go.Proofs.YtcmemgahgenpdaaDoorW.PrintWords Go.Proofs.YtcmemgahgenpdaaDoorW.PrintLast Go.Proofs.YtcmemgahgenpdaaDoorW.PrintMore
attribute [local go_sem] max2_int min2_int max_two min_two max_three min_three max_four min_four
set_option linter.unusedVariables false
set_option linter.unusedSimpArgs false
end Go.Proofs.YtcmemgahgenpdaaDoor.PSc
end
section
namespace Go.Proofs.YtcmemgahgenpdaaDoor.PSc
open Go.Proofs.YtcmemgahgenpdaaDoor.Hand Go.RowKit Go.Proofs.YtcmemgahgenpdaaDoorW.PrintWords Go.Proofs.YtcmemgahgenpdaaDoorW.PrintLast Go.Proofs.YtcmemgahgenpdaaDoorW.PrintMore
attribute [local go_sem] max2_int min2_int max_two min_two max_three min_three max_four min_four
set_option linter.unusedVariables false
set_option linter.unusedSimpArgs false
end Go.Proofs.YtcmemgahgenpdaaDoor.PSc
end
section
namespace Go.Proofs.YtcmemgahgenpdaaDoor.Pure
open Go.RowKit Go.Proofs.YtcmemgahgenpdaaDoor.PSc Go.Proofs.YtcmemgahgenpdaaDoor.Hand Go.Proofs.YtcmemgahgenpdaaDoorW.PrintWords Go.Proofs.YtcmemgahgenpdaaDoorW.PrintLast
set_option linter.unusedVariables false
set_option linter.unusedSimpArgs false
theorem bt_at {s : ByteArray} {i : Nat} (h : i < s.size) : bt s (i : Int) = (((Bs s)[i]'(by rw [Bs_size]; exact h)).toNat : Int) :=
  (bt_list s i h _).1 (List.getElem?_eq_getElem (by rw [data_length]; exact h))
end Go.Proofs.YtcmemgahgenpdaaDoor.Pure
end
section
namespace Go.Proofs.YtcmemgahgenpdaaDoor.Pure
open Go.RowKit Go.Proofs.YtcmemgahgenpdaaDoor.PSc Go.Proofs.YtcmemgahgenpdaaDoor.Hand Go.Proofs.YtcmemgahgenpdaaDoorW.PrintWords Go.Proofs.YtcmemgahgenpdaaDoorW.PrintLast
set_option linter.unusedVariables false
set_option linter.unusedSimpArgs false
theorem Bs_join (l : List ByteArray) : Bs (joinQ l) = Lib.join (l.map Bs) [32] := rfl
end Go.Proofs.YtcmemgahgenpdaaDoor.Pure
end
section
namespace Go.Proofs.YtcmemgahgenpdaaDoor.PSc
open Go.Proofs.YtcmemgahgenpdaaDoor.Hand Go.RowKit Go.Proofs.YtcmemgahgenpdaaDoorW.PrintWords Go.Proofs.YtcmemgahgenpdaaDoorW.PrintLast Go.Proofs.YtcmemgahgenpdaaDoorW.PrintMore
attribute [local go_sem] max2_int min2_int max_two min_two max_three min_three max_four min_four
set_option linter.unusedVariables false
set_option linter.unusedSimpArgs false
end Go.Proofs.YtcmemgahgenpdaaDoor.PSc
end
section
namespace Go.Proofs.YtcmemgahgenpdaaDoor.Pure
open Go.RowKit Go.Proofs.YtcmemgahgenpdaaDoor.PSc Go.Proofs.YtcmemgahgenpdaaDoor.Hand Go.Proofs.YtcmemgahgenpdaaDoorW.PrintWords Go.Proofs.YtcmemgahgenpdaaDoorW.PrintLast
set_option linter.unusedVariables false
set_option linter.unusedSimpArgs false
theorem bt_range (s : ByteArray) (i : Nat) (h : i < s.size) : ∃ n : Nat, n < 256 ∧ bt s (i : Int) = (n : Int) := by
  obtain ⟨n, h1, h2, _⟩ := bt_byte s i h
  exact ⟨n, h1, h2⟩
end Go.Proofs.YtcmemgahgenpdaaDoor.Pure
end
section
namespace Go.Proofs.YtcmemgahgenpdaaDoor.PSc
open Go.Proofs.YtcmemgahgenpdaaDoor.Hand Go.RowKit Go.Proofs.YtcmemgahgenpdaaDoorW.PrintWords Go.Proofs.YtcmemgahgenpdaaDoorW.PrintLast Go.Proofs.YtcmemgahgenpdaaDoorW.PrintMore
attribute [local go_sem] max2_int min2_int max_two min_two max_three min_three max_four min_four
set_option linter.unusedVariables false
set_option linter.unusedSimpArgs false
end Go.Proofs.YtcmemgahgenpdaaDoor.PSc
end
section
namespace Go.Proofs.YtcmemgahgenpdaaDoor.Pure
open Go.RowKit Go.Proofs.YtcmemgahgenpdaaDoor.PSc Go.Proofs.YtcmemgahgenpdaaDoor.Hand Go.Proofs.YtcmemgahgenpdaaDoorW.PrintWords Go.Proofs.YtcmemgahgenpdaaDoorW.PrintLast
set_option linter.unusedVariables false
set_option linter.unusedSimpArgs false
theorem rd_wd (l : List ByteArray) (i : Nat) : rdOf ByteArray.empty l (i : Int) = wd l i := by
  unfold rdOf wd
  rw [Int.toNat_natCast]
theorem up (i : Nat) (h : i ≤ 1000000000) : wrap64 ((i : Int) + 1) = ((i + 1 : Nat) : Int) := by rw [wrap64_id (by omega) (by omega)]; rfl
end Go.Proofs.YtcmemgahgenpdaaDoor.Pure
end
section
namespace Go.Proofs.YtcmemgahgenpdaaDoor.Pure
open Go.RowKit Go.Proofs.YtcmemgahgenpdaaDoor.PSc Go.Proofs.YtcmemgahgenpdaaDoor.Hand Go.Proofs.YtcmemgahgenpdaaDoorW.PrintWords Go.Proofs.YtcmemgahgenpdaaDoorW.PrintLast
set_option linter.unusedVariables false
set_option linter.unusedSimpArgs false
def tailB : List ByteArray → ByteArray
  | [] => ⟨#[]⟩
  | w :: r => ((⟨#[32]⟩ : ByteArray) ++ w) ++ tailB r
theorem joinQ_cons (x : ByteArray) (r : List ByteArray) : joinQ (x :: r) = x ++ tailB r := by
  apply Bs_inj
  rw [Bs_join, List.map_cons, Lib.join_cons, Bs_append]
  congr 1
  induction r with
  | nil => rfl
  | cons y r ih =>
    rw [tailB, Bs_append, Bs_append, ← ih]
    simp [Lib.joinTail, Bs]
theorem tailB_size (m : Nat) : ∀ (l : List ByteArray), (∀ w ∈ l, w.size ≤ m) → (tailB l).size ≤ l.length * (m + 1)
  | [], _ => by show 0 ≤ _; omega
  | w :: r, h => by
    have h1 := h w (by simp)
    have h2 := tailB_size m r (fun x hx => h x (by simp [hx]))
    rw [tailB, size_append, size_append, List.length_cons, Nat.add_mul]
    have : (⟨#[32]⟩ : ByteArray).size = 1 := rfl
    omega
theorem wordS_size (t : ByteArray) : (wordS t).size ≤ 3 * t.size + 1 := by
  unfold wordS
  split
  · show 1 ≤ _; omega
  · have := wordL_size t t.size; omega
theorem itoaS_size (n : Int) (h0 : -9223372036854775808 ≤ n) (h1 : n ≤ 9223372036854775807) : (itoaS n).size ≤ 21 := by
  rw [← Bs_size]; exact Lib.itoa_length_le n h0 h1
theorem word_f' (s : ByteArray) (h : s.size ≤ 2000000) : script_word.f s = some (wordS s) := by
  unfold script_word.f; rw [if_pos (by omega)]
theorem itoa_f (n : Int) (h0 : -9223372036854775808 ≤ n) (h1 : n ≤ 9223372036854775807) : strconv_Itoa_20.f n = some (itoaS n) := by
  unfold strconv_Itoa_20.f; rw [if_pos ⟨h0, h1⟩]; rfl
end Go.Proofs.YtcmemgahgenpdaaDoor.Pure
end
section
namespace Go.Proofs.YtcmemgahgenpdaaDoor.PSc
open Go.Proofs.YtcmemgahgenpdaaDoor.Hand Go.RowKit Go.Proofs.YtcmemgahgenpdaaDoorW.PrintWords Go.Proofs.YtcmemgahgenpdaaDoorW.PrintLast Go.Proofs.YtcmemgahgenpdaaDoorW.PrintMore
attribute [local go_sem] max2_int min2_int max_two min_two max_three min_three max_four min_four
set_option linter.unusedVariables false
set_option linter.unusedSimpArgs false
mutual
def graftageref56_Text.l0 : Nat → ByteArray → Int → Int → List ByteArray → List ByteArray → Int → ByteArray → Option (ByteArray)
 | 0, _, _, _, _, _, _, _ => none
 | k + 1, x3, x4, x365000, x365001, x365002, x365003, x365004 => if x4 < (x365001.length : Int) then (if x3.size + 1 ≤ 9223372036854775807 then (if 0 ≤ x4 then (if (x3 ++ (⟨#[32]⟩ : ByteArray)).size + (rdOf ByteArray.empty x365001 x4).size ≤ 9223372036854775807 then (graftageref56_Text.l0 k ((x3 ++ (⟨#[32]⟩ : ByteArray)) ++ (rdOf ByteArray.empty x365001 x4)) (wrap64 (x4 + 1)) x365000 x365001 x365002 x365003 x365004) else (none)) else (none)) else (none)) else (if x3.size + 1 ≤ 9223372036854775807 then ((graftageref14_Digits.f k (x365002.length : Int)).bind fun t369 => (if (x3 ++ (⟨#[32]⟩ : ByteArray)).size + t369.size ≤ 9223372036854775807 then (graftageref56_Text.l1 k ((x3 ++ (⟨#[32]⟩ : ByteArray)) ++ t369) 0 x365000 x365001 x365002 x365003 x365004) else (none))) else (none))
def graftageref56_Text.l1 : Nat → ByteArray → Int → Int → List ByteArray → List ByteArray → Int → ByteArray → Option (ByteArray)
 | 0, _, _, _, _, _, _, _ => none
 | k + 1, x3, x5, x365000, x365001, x365002, x365003, x365004 => if x5 < (x365002.length : Int) then (if x3.size + 1 ≤ 9223372036854775807 then (if 0 ≤ x5 then ((graftageref56_Word.f k (rdOf ByteArray.empty x365002 x5)).bind fun t371 => (if (x3 ++ (⟨#[32]⟩ : ByteArray)).size + t371.size ≤ 9223372036854775807 then (graftageref56_Text.l1 k ((x3 ++ (⟨#[32]⟩ : ByteArray)) ++ t371) (wrap64 (x5 + 1)) x365000 x365001 x365002 x365003 x365004) else (none))) else (none)) else (none)) else (if x3.size + 1 ≤ 9223372036854775807 then ((graftageref56_Word.f k x365004).bind fun t372 => (if (x3 ++ (⟨#[32]⟩ : ByteArray)).size + t372.size ≤ 9223372036854775807 then (some ((x3 ++ (⟨#[32]⟩ : ByteArray)) ++ t372)) else (none))) else (none))
end
def graftageref56_Text.f (k : Nat) (a0_0 : Int) (l0_1 : List ByteArray) (l0_2 : List ByteArray) (a0_3 : Int) (a0_4 : ByteArray) : Option (ByteArray) := (graftageref14_Digits.f k a0_0).bind fun t365 => (if t365.size + 1 ≤ 9223372036854775807 then ((graftageref14_Digits.f k a0_3).bind fun t366 => (if (t365 ++ (⟨#[32]⟩ : ByteArray)).size + t366.size ≤ 9223372036854775807 then (if ((t365 ++ (⟨#[32]⟩ : ByteArray)) ++ t366).size + 1 ≤ 9223372036854775807 then ((graftageref14_Digits.f k (l0_1.length : Int)).bind fun t367 => (if (((t365 ++ (⟨#[32]⟩ : ByteArray)) ++ t366) ++ (⟨#[32]⟩ : ByteArray)).size + t367.size ≤ 9223372036854775807 then (graftageref56_Text.l0 k ((((t365 ++ (⟨#[32]⟩ : ByteArray)) ++ t366) ++ (⟨#[32]⟩ : ByteArray)) ++ t367) 0 a0_0 l0_1 l0_2 a0_3 a0_4) else (none))) else (none)) else (none))) else (none))
def graftageref56_Text.T1 : Bool × List (List Nat × List Nat) := (true, [([], []), ([0], [0]), ([1], [1]), ([2], [2]), ([], []), ([4], [4]), ([5, 2], [5]), ([3, 6], [3, 6]), ([7], [7]), ([], []), ([9], [9]), ([10], [10]), ([11, 6], [11]), ([8, 12], [8, 12]), ([13, 12, 0, 1, 2, 3, 4, 5, 6, 7, 8, 9, 10, 11, 12, 13], [13])])
def graftageref56_Text.B1 : List Nat := [0, 1, 3, 7, 0, 16, 55, 127, 255, 0, 512, 1536, 3703, 8191, 16383]
theorem graftageref56_Text.tab1 : rtab .any (opsOf Tryd.f14 1) = graftageref56_Text.T1 := by kernel_rfl
theorem graftageref56_Text.bits1 : waitsOk graftageref56_Text.T1.2 graftageref56_Text.B1 = true := by kernel_rfl
set_option maxHeartbeats 8000000 in
set_option maxRecDepth 100000 in
theorem graftageref56_Text.calls (k : Nat) (a0_0 : Int) (A0_1 : Option Addr) (c0_1 : Nat) (l0_1 : List ByteArray) (A0_2 : Option Addr) (c0_2 : Nat) (l0_2 : List ByteArray) (a0_3 : Int) (a0_4 : ByteArray) (r : ByteArray) (w : World) (hr0_1 : Kd.C Kd.string w A0_1 l0_1.length l0_1) (hc0_1 : l0_1.length ≤ c0_1) (hr0_2 : Kd.C Kd.string w A0_2 l0_2.length l0_2) (hc0_2 : l0_2.length ≤ c0_2) (h : graftageref56_Text.f k a0_0 l0_1 l0_2 a0_3 a0_4 = some r) :
  Calls Tryd.prog 14 #[.agg #[.int .i64 a0_0, .slice A0_1 l0_1.length c0_1, .slice A0_2 l0_2.length c0_2, .int .i64 a0_3, .string a0_4]] w fun e w' => e = .returned (.string r) ∧ Below w.heap.size w w' := by
 have hu36 := Tryd.underlying36
 have HR0_1 := Aside0.mk hr0_1
 have HC0_1 := Aside0.mk hc0_1
 clear hr0_1 hc0_1
 have HR0_2 := Aside0.mk hr0_2
 have HC0_2 := Aside0.mk hc0_2
 clear hr0_2 hc0_2
 have HB := Aside0.mk (Below.refl w.heap.size w)
 have H : ((graftageref14_Digits.f k a0_0).bind fun t365 => (if t365.size + 1 ≤ 9223372036854775807 then ((graftageref14_Digits.f k a0_3).bind fun t366 => (if (t365 ++ (⟨#[32]⟩ : ByteArray)).size + t366.size ≤ 9223372036854775807 then (if ((t365 ++ (⟨#[32]⟩ : ByteArray)) ++ t366).size + 1 ≤ 9223372036854775807 then ((graftageref14_Digits.f k (l0_1.length : Int)).bind fun t367 => (if (((t365 ++ (⟨#[32]⟩ : ByteArray)) ++ t366) ++ (⟨#[32]⟩ : ByteArray)).size + t367.size ≤ 9223372036854775807 then (graftageref56_Text.l0 k ((((t365 ++ (⟨#[32]⟩ : ByteArray)) ++ t366) ++ (⟨#[32]⟩ : ByteArray)) ++ t367) 0 a0_0 l0_1 l0_2 a0_3 a0_4) else (none))) else (none)) else (none))) else (none))) = some r := h
 clear h
 replace H := Option.bind_eq_some_iff.mp H
 obtain ⟨t365, A20, H⟩ := H
 replace H : (if t365.size + 1 ≤ 9223372036854775807 then ((graftageref14_Digits.f k a0_3).bind fun t366 => (if (t365 ++ (⟨#[32]⟩ : ByteArray)).size + t366.size ≤ 9223372036854775807 then (if ((t365 ++ (⟨#[32]⟩ : ByteArray)) ++ t366).size + 1 ≤ 9223372036854775807 then ((graftageref14_Digits.f k (l0_1.length : Int)).bind fun t367 => (if (((t365 ++ (⟨#[32]⟩ : ByteArray)) ++ t366) ++ (⟨#[32]⟩ : ByteArray)).size + t367.size ≤ 9223372036854775807 then (graftageref56_Text.l0 k ((((t365 ++ (⟨#[32]⟩ : ByteArray)) ++ t366) ++ (⟨#[32]⟩ : ByteArray)) ++ t367) 0 a0_0 l0_1 l0_2 a0_3 a0_4) else (none))) else (none)) else (none))) else (none)) = some r := H
 have A2 := Aside0.mk A20
 clear A20
 by_cases c3 : t365.size + 1 ≤ 9223372036854775807
 ·rw [if_pos c3] at H
  have c3b0 := eq_true c3
  have c3b1 : decide (t365.size + 1 ≤ 9223372036854775807) = true := decide_eq_true c3
  try have c3b2 : (9223372036854775807 < t365.size + 1) = False := eq_false (Nat.not_lt.2 c3)
  replace H := Option.bind_eq_some_iff.mp H
  obtain ⟨t366, A40, H⟩ := H
  replace H : (if (t365 ++ (⟨#[32]⟩ : ByteArray)).size + t366.size ≤ 9223372036854775807 then (if ((t365 ++ (⟨#[32]⟩ : ByteArray)) ++ t366).size + 1 ≤ 9223372036854775807 then ((graftageref14_Digits.f k (l0_1.length : Int)).bind fun t367 => (if (((t365 ++ (⟨#[32]⟩ : ByteArray)) ++ t366) ++ (⟨#[32]⟩ : ByteArray)).size + t367.size ≤ 9223372036854775807 then (graftageref56_Text.l0 k ((((t365 ++ (⟨#[32]⟩ : ByteArray)) ++ t366) ++ (⟨#[32]⟩ : ByteArray)) ++ t367) 0 a0_0 l0_1 l0_2 a0_3 a0_4) else (none))) else (none)) else (none)) = some r := H
  have A4 := Aside0.mk A40
  clear A40
  by_cases c5 : (t365 ++ (⟨#[32]⟩ : ByteArray)).size + t366.size ≤ 9223372036854775807
  ·rw [if_pos c5] at H
   have c5b0 := eq_true c5
   have c5b1 : decide ((t365 ++ (⟨#[32]⟩ : ByteArray)).size + t366.size ≤ 9223372036854775807) = true := decide_eq_true c5
   try have c5b2 : (9223372036854775807 < (t365 ++ (⟨#[32]⟩ : ByteArray)).size + t366.size) = False := eq_false (Nat.not_lt.2 c5)
   try (have c5b3 := c5b2; simp only [ByteArray.size_append] at c5b3)
   try (have c5b4 := c5b2; simp only [ByteArray.size_append, show (⟨#[32]⟩ : ByteArray).size = 1 from rfl, show (⟨#[10]⟩ : ByteArray).size = 1 from rfl] at c5b4)
   by_cases c6 : ((t365 ++ (⟨#[32]⟩ : ByteArray)) ++ t366).size + 1 ≤ 9223372036854775807
   ·rw [if_pos c6] at H
    have c6b0 := eq_true c6
    have c6b1 : decide (((t365 ++ (⟨#[32]⟩ : ByteArray)) ++ t366).size + 1 ≤ 9223372036854775807) = true := decide_eq_true c6
    try have c6b2 : (9223372036854775807 < ((t365 ++ (⟨#[32]⟩ : ByteArray)) ++ t366).size + 1) = False := eq_false (Nat.not_lt.2 c6)
    try (have c6b3 := c6b2; simp only [ByteArray.size_append] at c6b3)
    try (have c6b4 := c6b2; simp only [ByteArray.size_append, show (⟨#[32]⟩ : ByteArray).size = 1 from rfl, show (⟨#[10]⟩ : ByteArray).size = 1 from rfl] at c6b4)
    replace H := Option.bind_eq_some_iff.mp H
    obtain ⟨t367, A70, H⟩ := H
    replace H : (if (((t365 ++ (⟨#[32]⟩ : ByteArray)) ++ t366) ++ (⟨#[32]⟩ : ByteArray)).size + t367.size ≤ 9223372036854775807 then (graftageref56_Text.l0 k ((((t365 ++ (⟨#[32]⟩ : ByteArray)) ++ t366) ++ (⟨#[32]⟩ : ByteArray)) ++ t367) 0 a0_0 l0_1 l0_2 a0_3 a0_4) else (none)) = some r := H
    have A7 := Aside0.mk A70
    clear A70
    by_cases c8 : (((t365 ++ (⟨#[32]⟩ : ByteArray)) ++ t366) ++ (⟨#[32]⟩ : ByteArray)).size + t367.size ≤ 9223372036854775807
    ·rw [if_pos c8] at H
     have c8b0 := eq_true c8
     have c8b1 : decide ((((t365 ++ (⟨#[32]⟩ : ByteArray)) ++ t366) ++ (⟨#[32]⟩ : ByteArray)).size + t367.size ≤ 9223372036854775807) = true := decide_eq_true c8
     try have c8b2 : (9223372036854775807 < (((t365 ++ (⟨#[32]⟩ : ByteArray)) ++ t366) ++ (⟨#[32]⟩ : ByteArray)).size + t367.size) = False := eq_false (Nat.not_lt.2 c8)
     try (have c8b3 := c8b2; simp only [ByteArray.size_append] at c8b3)
     try (have c8b4 := c8b2; simp only [ByteArray.size_append, show (⟨#[32]⟩ : ByteArray).size = 1 from rfl, show (⟨#[10]⟩ : ByteArray).size = 1 from rfl] at c8b4)
     have H' := Aside0.mk H
     clear H
     go_enter Tryd.func14, Tryd.ntmps14
     try go_wp2_with (first | ((with_reducible refine gate_dst (N := 1) rfl ?_); refine box_event ?hg (N := 1) ?hd (cs := #[.int .i64 a0_0, .slice A0_1 l0_1.length c0_1, .slice A0_2 l0_2.length c0_2, .int .i64 a0_3, .string a0_4]) (t := 36) ?hr ?_; (case hd => rfl); (case hg => rfl); (case hr => first | (go_simp; done) | (go_simp; rfl)); intro gb364 hg w9 hbox hb; have n0_ := Aside0.mk (below_step (by repeat (first | (with_reducible first | exact HB.out | apply below_alloc | apply pw_below_drewN | apply below_drew1) | exact HB.out)) hb); have n1_ := Aside0.mk (hbox); have n2_ := Aside0.mk ((by rw [hg]; exact (below_size (by repeat (first | (with_reducible first | exact HB.out | apply below_alloc | apply pw_below_drewN | apply below_drew1) | exact HB.out))) : w.heap.size ≤ gb364)); have n3_ := Aside0.mk ((by rw [hg]; exact (below_size (by repeat (first | (with_reducible first | exact HB.out | apply below_alloc | apply pw_below_drewN | apply below_drew1) | exact HB.out))) : w.heap.size ≤ gb364)); clear HB; have HB := n0_; have BK364 := n1_; have GW364 := n2_; have GE364 := n3_; clear n0_ n1_ n2_ n3_; clear hb hbox hg))
     have n0_ := Aside0.mk (blk_drew BK364.out)
     have n1_ := Aside0.mk (below_drew1 HB.out)
     clear BK364
     clear HB
     have BK364 := n0_
     have HB := n1_
     clear n0_ n1_
     refine start_ (n := 15) (S := fun w' => w'.cell? ⟨gb364, 0, none⟩ = some (.int .i64 a0_0) ∧ w'.cell? ⟨gb364, 1, none⟩ = some (.slice A0_1 l0_1.length c0_1) ∧ w'.cell? ⟨gb364, 2, none⟩ = some (.slice A0_2 l0_2.length c0_2) ∧ w'.cell? ⟨gb364, 3, none⟩ = some (.int .i64 a0_3) ∧ w'.cell? ⟨gb364, 4, none⟩ = some (.string a0_4)) (ds := []) #[false, false, false, false, false, false, false, false, false, false, false, false, false, false, false] (by kernel_rfl) rfl rfl ⟨(blk_cell BK364.out 0).trans rfl, (blk_cell BK364.out 1).trans rfl, (blk_cell BK364.out 2).trans rfl, (blk_cell BK364.out 3).trans rfl, (blk_cell BK364.out 4).trans rfl⟩ (fun hHeld => ?_); refine with_tabW graftageref56_Text.tab1 graftageref56_Text.bits1 (fun HT_ HW_ => ?_)
     generalize w9.drew = w10 at BK364 HB hHeld ⊢
     refine pure_ (i := 0) (N := some 6) (v := ?_) (a' := ?_) #[true, false, false, false, false, false, false, false, false, false, false, false, false, false, false] rfl rfl (any_of HT_.out (by kernel_rfl)) (fun _ _ _ h => h) (Or.inl ⟨by rfl, ?_⟩) ?_ ?_
     rotate_left
     ·intro w'
      go_simp
      with_reducible rfl
     rotate_left
     ·simp only [Act.put, List.setIfInBounds_toArray, List.set_cons_zero, List.set_cons_succ, i64_w, i32_w]
      rfl
     refine pure_ (i := 4) (N := some 10) (v := ?_) (a' := ?_) #[true, false, false, false, true, false, false, false, false, false, false, false, false, false, false] rfl rfl (any_of HT_.out (by kernel_rfl)) (fun _ _ _ h => h) (Or.inl ⟨by rfl, ?_⟩) ?_ ?_
     rotate_left
     ·intro w'
      go_simp
      with_reducible rfl
     rotate_left
     ·simp only [Act.put, List.setIfInBounds_toArray, List.set_cons_zero, List.set_cons_succ, i64_w, i32_w]
      rfl
     refine pure_ (i := 9) (N := some 15) (v := ?_) (a' := ?_) #[true, false, false, false, true, false, false, false, false, true, false, false, false, false, false] rfl rfl (any_of HT_.out (by kernel_rfl)) (fun _ _ _ h => h) (Or.inl ⟨by rfl, ?_⟩) ?_ ?_
     rotate_left
     ·intro w'
      go_simp
      with_reducible rfl
     rotate_left
     ·simp only [Act.put, List.setIfInBounds_toArray, List.set_cons_zero, List.set_cons_succ, i64_w, i32_w]
      rfl
     refine take_ (i := 1) (N := some 7) (v := ?_) (a' := ?_) #[true, true, false, false, true, false, false, false, false, true, false, false, false, false, false] rfl rfl (take_ofW HT_.out HW_.out (by kernel_rfl)) (fun _ _ _ h => h) (Or.inl ⟨by rfl, ?_⟩) hHeld ?_ ?_
     rotate_left
     ·rintro w' ⟨s0, s1, s2, s3, s4⟩
      go_simp
      with_reducible rfl
     rotate_left
     ·simp only [Act.put, List.setIfInBounds_toArray, List.set_cons_zero, List.set_cons_succ, i64_w, i32_w]
      rfl
     refine take_ (i := 5) (N := some 11) (v := ?_) (a' := ?_) #[true, true, false, false, true, true, false, false, false, true, false, false, false, false, false] rfl rfl (take_ofW HT_.out HW_.out (by kernel_rfl)) (fun _ _ _ h => h) (Or.inl ⟨by rfl, ?_⟩) hHeld ?_ ?_
     rotate_left
     ·rintro w' ⟨s0, s1, s2, s3, s4⟩
      go_simp
      with_reducible rfl
     rotate_left
     ·simp only [Act.put, List.setIfInBounds_toArray, List.set_cons_zero, List.set_cons_succ, i64_w, i32_w]
      rfl
     refine take_ (i := 10) (N := some 16) (v := ?_) (a' := ?_) #[true, true, false, false, true, true, false, false, false, true, true, false, false, false, false] rfl rfl (take_ofW HT_.out HW_.out (by kernel_rfl)) (fun _ _ _ h => h) (Or.inl ⟨by rfl, ?_⟩) hHeld ?_ ?_
     rotate_left
     ·rintro w' ⟨s0, s1, s2, s3, s4⟩
      go_simp
      with_reducible rfl
     rotate_left
     ·simp only [Act.put, List.setIfInBounds_toArray, List.set_cons_zero, List.set_cons_succ, i64_w, i32_w]
      rfl
     refine pure_ (i := 11) (N := some 17) (v := ?_) (a' := ?_) #[true, true, false, false, true, true, false, false, false, true, true, true, false, false, false] rfl rfl (any_of HT_.out (by kernel_rfl)) (fun _ _ _ h => h) (Or.inl ⟨by rfl, ?_⟩) ?_ ?_
     rotate_left
     ·intro w'
      go_simp
      with_reducible rfl
     rotate_left
     ·simp only [Act.put, List.setIfInBounds_toArray, List.set_cons_zero, List.set_cons_succ, i64_w, i32_w]
      rfl
     refine one_ (i := 2) (N := some 8) #[true, true, true, false, true, true, false, false, false, true, true, true, false, false, false] rfl rfl (one_of HT_.out (by kernel_rfl)) (by decide) (fun K hK => ?_)
     refine goes_ Tryd.func25 (by kernel_rfl) rfl #[.int .i64 a0_0] (by rfl) rfl rfl (by (try simp only [List.map_toArray, List.map_cons, List.map_nil]); first | done | rfl | (simp only [List.length_drop, List.length_take]; rfl)) ?_
     with_reducible refine (graftageref14_Digits.calls k a0_0 t365 _ A2.out).mono ?_
     rintro e w11 ⟨rfl, hb⟩
     refine ⟨_, rfl, ?_⟩
     have n0_ := Aside0.mk (blk_below (g := gb364) (o := .cells #[.int .i64 a0_0, .slice A0_1 l0_1.length c0_1, .slice A0_2 l0_2.length c0_2, .int .i64 a0_3, .string a0_4] 36 (0, 0)) (by (with_reducible repeat (first | refine blk_drewN ?_ _ | refine blk_drew ?_ | refine blk_alloc ?_ _)); exact BK364.out) hb)
     have n1_ := Aside0.mk (below_step (by repeat (first | (with_reducible first | exact HB.out | apply below_alloc | apply pw_below_drewN | apply below_drew1 | refine below_set ?_ GE364.out) | exact HB.out)) hb)
     clear BK364
     clear HB
     have BK364 := n0_
     have HB := n1_
     clear n0_ n1_
     (try clear hb)
     (try clear hb2)
     (try clear hk)
     (try clear hi)
     refine hK.out _ _ ⟨(blk_cell BK364.out 0).trans rfl, (blk_cell BK364.out 1).trans rfl, (blk_cell BK364.out 2).trans rfl, (blk_cell BK364.out 3).trans rfl, (blk_cell BK364.out 4).trans rfl⟩ (fun hHeld => ?_)
     clear hK K
     refine norm_ (a' := ?_) ?_ ?_
     rotate_left
     ·show Act.put _ (some 8) _ = _
      simp only [Act.put, List.setIfInBounds_toArray, List.set_cons_zero, List.set_cons_succ, i64_w, i32_w]
      rfl
     refine pure_ (i := 3) (N := some 9) (v := ?_) (a' := ?_) #[true, true, true, true, true, true, false, false, false, true, true, true, false, false, false] rfl rfl (any_of HT_.out (by kernel_rfl)) (fun _ _ _ h => h) (Or.inl ⟨by rfl, ?_⟩) ?_ ?_
     rotate_left
     ·intro w'
      go_simp
      with_reducible rfl
     rotate_left
     ·simp only [Act.put, List.setIfInBounds_toArray, List.set_cons_zero, List.set_cons_succ, i64_w, i32_w]
      rfl
     refine one_ (i := 6) (N := some 12) #[true, true, true, true, true, true, true, false, false, true, true, true, false, false, false] rfl rfl (one_of HT_.out (by kernel_rfl)) (by decide) (fun K hK => ?_)
     refine goes_ Tryd.func25 (by kernel_rfl) rfl #[.int .i64 a0_3] (by rfl) rfl rfl (by (try simp only [List.map_toArray, List.map_cons, List.map_nil]); first | done | rfl | (simp only [List.length_drop, List.length_take]; rfl)) ?_
     with_reducible refine (graftageref14_Digits.calls k a0_3 t366 _ A4.out).mono ?_
     rintro e w12 ⟨rfl, hb⟩
     refine ⟨_, rfl, ?_⟩
     have n0_ := Aside0.mk (blk_below (g := gb364) (o := .cells #[.int .i64 a0_0, .slice A0_1 l0_1.length c0_1, .slice A0_2 l0_2.length c0_2, .int .i64 a0_3, .string a0_4] 36 (0, 0)) (by (with_reducible repeat (first | refine blk_drewN ?_ _ | refine blk_drew ?_ | refine blk_alloc ?_ _)); exact BK364.out) hb)
     have n1_ := Aside0.mk (below_step (by repeat (first | (with_reducible first | exact HB.out | apply below_alloc | apply pw_below_drewN | apply below_drew1 | refine below_set ?_ GE364.out) | exact HB.out)) hb)
     clear BK364
     clear HB
     have BK364 := n0_
     have HB := n1_
     clear n0_ n1_
     (try clear hb)
     (try clear hb2)
     (try clear hk)
     (try clear hi)
     refine hK.out _ _ ⟨(blk_cell BK364.out 0).trans rfl, (blk_cell BK364.out 1).trans rfl, (blk_cell BK364.out 2).trans rfl, (blk_cell BK364.out 3).trans rfl, (blk_cell BK364.out 4).trans rfl⟩ (fun hHeld => ?_)
     clear hK K
     refine norm_ (a' := ?_) ?_ ?_
     rotate_left
     ·show Act.put _ (some 12) _ = _
      simp only [Act.put, List.setIfInBounds_toArray, List.set_cons_zero, List.set_cons_succ, i64_w, i32_w]
      rfl
     refine pure_ (i := 7) (N := some 13) (v := ?_) (a' := ?_) #[true, true, true, true, true, true, true, true, false, true, true, true, false, false, false] rfl rfl (any_of HT_.out (by kernel_rfl)) (fun _ _ _ h => h) (Or.inl ⟨by rfl, ?_⟩) ?_ ?_
     rotate_left
     ·intro w'
      go_simp
      with_reducible rfl
     rotate_left
     ·simp only [Act.put, List.setIfInBounds_toArray, List.set_cons_zero, List.set_cons_succ, i64_w, i32_w]
      rfl
     refine pure_ (i := 8) (N := some 14) (v := ?_) (a' := ?_) #[true, true, true, true, true, true, true, true, true, true, true, true, false, false, false] rfl rfl (any_of HT_.out (by kernel_rfl)) (fun _ _ _ h => h) (Or.inl ⟨by rfl, ?_⟩) ?_ ?_
     rotate_left
     ·intro w'
      go_simp
      with_reducible rfl
     rotate_left
     ·simp only [Act.put, List.setIfInBounds_toArray, List.set_cons_zero, List.set_cons_succ, i64_w, i32_w]
      rfl
     refine one_ (i := 12) (N := some 18) #[true, true, true, true, true, true, true, true, true, true, true, true, true, false, false] rfl rfl (one_of HT_.out (by kernel_rfl)) (by decide) (fun K hK => ?_)
     refine goes_ Tryd.func25 (by kernel_rfl) rfl #[.int .i64 (l0_1.length : Int)] (by rfl) rfl rfl (by (try simp only [List.map_toArray, List.map_cons, List.map_nil]); first | done | rfl | (simp only [List.length_drop, List.length_take]; rfl)) ?_
     with_reducible refine (graftageref14_Digits.calls k (l0_1.length : Int) t367 _ A7.out).mono ?_
     rintro e w13 ⟨rfl, hb⟩
     refine ⟨_, rfl, ?_⟩
     have n0_ := Aside0.mk (blk_below (g := gb364) (o := .cells #[.int .i64 a0_0, .slice A0_1 l0_1.length c0_1, .slice A0_2 l0_2.length c0_2, .int .i64 a0_3, .string a0_4] 36 (0, 0)) (by (with_reducible repeat (first | refine blk_drewN ?_ _ | refine blk_drew ?_ | refine blk_alloc ?_ _)); exact BK364.out) hb)
     have n1_ := Aside0.mk (below_step (by repeat (first | (with_reducible first | exact HB.out | apply below_alloc | apply pw_below_drewN | apply below_drew1 | refine below_set ?_ GE364.out) | exact HB.out)) hb)
     clear BK364
     clear HB
     have BK364 := n0_
     have HB := n1_
     clear n0_ n1_
     (try clear hb)
     (try clear hb2)
     (try clear hk)
     (try clear hi)
     refine hK.out _ _ ⟨(blk_cell BK364.out 0).trans rfl, (blk_cell BK364.out 1).trans rfl, (blk_cell BK364.out 2).trans rfl, (blk_cell BK364.out 3).trans rfl, (blk_cell BK364.out 4).trans rfl⟩ (fun hHeld => ?_)
     clear hK K
     refine norm_ (a' := ?_) ?_ ?_
     rotate_left
     ·show Act.put _ (some 18) _ = _
      simp only [Act.put, List.setIfInBounds_toArray, List.set_cons_zero, List.set_cons_succ, i64_w, i32_w]
      rfl
     refine pure_ (i := 13) (N := some 19) (v := ?_) (a' := ?_) #[true, true, true, true, true, true, true, true, true, true, true, true, true, true, false] rfl rfl (any_of HT_.out (by kernel_rfl)) (fun _ _ _ h => h) (Or.inl ⟨by rfl, ?_⟩) ?_ ?_
     rotate_left
     ·intro w'
      go_simp
      with_reducible rfl
     rotate_left
     ·simp only [Act.put, List.setIfInBounds_toArray, List.set_cons_zero, List.set_cons_succ, i64_w, i32_w]
      rfl
     refine pure_ (i := 14) (N := some 3) (v := ?_) (a' := ?_) #[true, true, true, true, true, true, true, true, true, true, true, true, true, true, true] rfl rfl (any_of HT_.out (by kernel_rfl)) (fun _ _ _ h => h) (Or.inl ⟨by rfl, ?_⟩) ?_ ?_
     rotate_left
     ·intro w'
      go_simp
      with_reducible rfl
     rotate_left
     ·simp only [Act.put, List.setIfInBounds_toArray, List.set_cons_zero, List.set_cons_succ, i64_w, i32_w]
      rfl
     refine done_ (done_of HT_.out (by kernel_rfl)) ?_
     try go_wp2
     go_loopg [3, 4] k (fun kq v3 v4 w' => ∃ (x3_1 : ByteArray) (x4_1 : Int), v3 = .string x3_1 ∧ v4 = .int .i64 x4_1 ∧ Aside0 (graftageref56_Text.l0 kq x3_1 x4_1 a0_0 l0_1 l0_2 a0_3 a0_4 = some r) ∧ Aside0 (kq ≤ k) ∧ Aside0 (w'.heap[gb364]? = some (.cells #[.int .i64 a0_0, (.slice A0_1 l0_1.length c0_1), (.slice A0_2 l0_2.length c0_2), .int .i64 a0_3, .string a0_4] 36 (0, 0))) ∧ Aside0 (Below w.heap.size w w'))
     case atStart => exact ⟨((((t365 ++ (⟨#[32]⟩ : ByteArray)) ++ t366) ++ (⟨#[32]⟩ : ByteArray)) ++ t367), (0), (by first | rfl | (simp; done) | (simp [*]; done)), (by first | rfl | (simp; done) | (simp [*]; done)), H', ⟨Nat.le_refl _⟩, ⟨by (with_reducible repeat (first | refine blk_drewN ?_ _ | refine blk_drew ?_ | refine blk_alloc ?_ _)); exact BK364.out⟩, ⟨by repeat (first | (with_reducible first | exact HB.out | apply below_alloc | apply pw_below_drewN | apply below_drew1 | refine below_set ?_ GE364.out) | exact HB.out)⟩⟩
     case round =>
      clear H'
      try clear c1
      try clear c2
      try clear p2
      try clear c3
      try clear c3b0
      try clear c3b1
      try clear c3b2
      try clear c5
      try clear c5b0
      try clear c5b1
      try clear c5b2
      try clear c6
      try clear c6b0
      try clear c6b1
      try clear c6b2
      try clear c8
      try clear c8b0
      try clear c8b1
      try clear c8b2
      obtain ⟨x3_1, x4_1, rfl, rfl, HA, HK1, BK364, HB⟩ := hrel
      cases gk with
      | zero => exact absurd HA.out (by simp [graftageref56_Text.l0])
      | succ k1 =>
       have H := HA.out
       clear HA
       simp only [graftageref56_Text.l0] at H
       by_cases c14 : x4_1 < (l0_1.length : Int)
       ·rw [if_pos c14] at H
        have c14b0 : decide (x4_1 < (l0_1.length : Int)) = true := decide_eq_true c14
        clear c14
        by_cases c15 : x3_1.size + 1 ≤ 9223372036854775807
        ·rw [if_pos c15] at H
         have c15b0 := eq_true c15
         have c15b1 : decide (x3_1.size + 1 ≤ 9223372036854775807) = true := decide_eq_true c15
         try have c15b2 : (9223372036854775807 < x3_1.size + 1) = False := eq_false (Nat.not_lt.2 c15)
         by_cases c16 : 0 ≤ x4_1
         ·rw [if_pos c16] at H
          have c16b0 : decide (0 ≤ x4_1) = true := decide_eq_true c16
          clear c16
          by_cases c17 : (x3_1 ++ (⟨#[32]⟩ : ByteArray)).size + (rdOf ByteArray.empty l0_1 x4_1).size ≤ 9223372036854775807
          ·rw [if_pos c17] at H
           have c17b0 := eq_true c17
           have c17b1 : decide ((x3_1 ++ (⟨#[32]⟩ : ByteArray)).size + (rdOf ByteArray.empty l0_1 x4_1).size ≤ 9223372036854775807) = true := decide_eq_true c17
           try have c17b2 : (9223372036854775807 < (x3_1 ++ (⟨#[32]⟩ : ByteArray)).size + (rdOf ByteArray.empty l0_1 x4_1).size) = False := eq_false (Nat.not_lt.2 c17)
           try (have c17b3 := c17b2; simp only [ByteArray.size_append] at c17b3)
           try (have c17b4 := c17b2; simp only [ByteArray.size_append, show (⟨#[32]⟩ : ByteArray).size = 1 from rfl, show (⟨#[10]⟩ : ByteArray).size = 1 from rfl] at c17b4)
           have H' := Aside0.mk H
           clear H
           have hcz18_0 : wr.cell? ⟨gb364, 0, none⟩ = some (.int .i64 a0_0) := (blk_cell BK364.out 0).trans rfl
           have hcz18_1 : wr.cell? ⟨gb364, 1, none⟩ = some (.slice A0_1 l0_1.length c0_1) := (blk_cell BK364.out 1).trans rfl
           have hcz18_2 : wr.cell? ⟨gb364, 2, none⟩ = some (.slice A0_2 l0_2.length c0_2) := (blk_cell BK364.out 2).trans rfl
           have hcz18_3 : wr.cell? ⟨gb364, 3, none⟩ = some (.int .i64 a0_3) := (blk_cell BK364.out 3).trans rfl
           have hcz18_4 : wr.cell? ⟨gb364, 4, none⟩ = some (.string a0_4) := (blk_cell BK364.out 4).trans rfl
           have hfz18_0 := blk_frozen BK364.out 0
           have hfz18_1 := blk_frozen BK364.out 1
           have hfz18_2 := blk_frozen BK364.out 2
           have hfz18_3 := blk_frozen BK364.out 3
           have hfz18_4 := blk_frozen BK364.out 4
           have p368 : 0 ≤ (x4_1 : Int) := of_decide_eq_true (by first | (with_reducible assumption) | assumption)
           have q368 : x4_1 < (l0_1.length : Int) := of_decide_eq_true (by first | (with_reducible assumption) | assumption)
           obtain ⟨ad368, e368, hx368_0⟩ := Kd.at_string HR0_1.out x4_1 p368 q368
           cases e368
           replace hx368_0 := (HB.out.cell (World.block_lt_of_cell? w _ hx368_0)).trans hx368_0
           replace p368 := eq_true p368
           replace q368 := eq_true q368
           go_wp2
           go_roundg k1
           case measure => have := HK1.out; omega
           case rel => exact ⟨((x3_1 ++ (⟨#[32]⟩ : ByteArray)) ++ (rdOf ByteArray.empty l0_1 x4_1)), (wrap64 (x4_1 + 1)), (by first | rfl | (simp; done) | (simp [*]; done)), (by first | rfl | (simp; done) | (simp [*]; done)), H', ⟨by have := HK1.out; omega⟩, ⟨by (with_reducible repeat (first | refine blk_drewN ?_ _ | refine blk_drew ?_ | refine blk_alloc ?_ _)); exact BK364.out⟩, ⟨by repeat (first | (with_reducible first | exact HB.out | apply below_alloc | apply pw_below_drewN | apply below_drew1 | refine below_set ?_ GE364.out) | exact HB.out)⟩⟩
          ·rw [if_neg c17] at H
           exact absurd H (by simp)
         ·rw [if_neg c16] at H
          exact absurd H (by simp)
        ·rw [if_neg c15] at H
         exact absurd H (by simp)
       ·rw [if_neg c14] at H
        have c14b0 : decide (x4_1 < (l0_1.length : Int)) = false := decide_eq_false c14
        clear c14
        by_cases c19 : x3_1.size + 1 ≤ 9223372036854775807
        ·rw [if_pos c19] at H
         have c19b0 := eq_true c19
         have c19b1 : decide (x3_1.size + 1 ≤ 9223372036854775807) = true := decide_eq_true c19
         try have c19b2 : (9223372036854775807 < x3_1.size + 1) = False := eq_false (Nat.not_lt.2 c19)
         replace H := Option.bind_eq_some_iff.mp H
         obtain ⟨t369, A200, H⟩ := H
         replace H : (if (x3_1 ++ (⟨#[32]⟩ : ByteArray)).size + t369.size ≤ 9223372036854775807 then (graftageref56_Text.l1 k1 ((x3_1 ++ (⟨#[32]⟩ : ByteArray)) ++ t369) 0 a0_0 l0_1 l0_2 a0_3 a0_4) else (none)) = some r := H
         have A20 := Aside0.mk A200
         clear A200
         by_cases c21 : (x3_1 ++ (⟨#[32]⟩ : ByteArray)).size + t369.size ≤ 9223372036854775807
         ·rw [if_pos c21] at H
          have c21b0 := eq_true c21
          have c21b1 : decide ((x3_1 ++ (⟨#[32]⟩ : ByteArray)).size + t369.size ≤ 9223372036854775807) = true := decide_eq_true c21
          try have c21b2 : (9223372036854775807 < (x3_1 ++ (⟨#[32]⟩ : ByteArray)).size + t369.size) = False := eq_false (Nat.not_lt.2 c21)
          try (have c21b3 := c21b2; simp only [ByteArray.size_append] at c21b3)
          try (have c21b4 := c21b2; simp only [ByteArray.size_append, show (⟨#[32]⟩ : ByteArray).size = 1 from rfl, show (⟨#[10]⟩ : ByteArray).size = 1 from rfl] at c21b4)
          have H' := Aside0.mk H
          clear H
          have hcz22_0 : wr.cell? ⟨gb364, 0, none⟩ = some (.int .i64 a0_0) := (blk_cell BK364.out 0).trans rfl
          have hcz22_1 : wr.cell? ⟨gb364, 1, none⟩ = some (.slice A0_1 l0_1.length c0_1) := (blk_cell BK364.out 1).trans rfl
          have hcz22_2 : wr.cell? ⟨gb364, 2, none⟩ = some (.slice A0_2 l0_2.length c0_2) := (blk_cell BK364.out 2).trans rfl
          have hcz22_3 : wr.cell? ⟨gb364, 3, none⟩ = some (.int .i64 a0_3) := (blk_cell BK364.out 3).trans rfl
          have hcz22_4 : wr.cell? ⟨gb364, 4, none⟩ = some (.string a0_4) := (blk_cell BK364.out 4).trans rfl
          have hfz22_0 := blk_frozen BK364.out 0
          have hfz22_1 := blk_frozen BK364.out 1
          have hfz22_2 := blk_frozen BK364.out 2
          have hfz22_3 := blk_frozen BK364.out 3
          have hfz22_4 := blk_frozen BK364.out 4
          go_wp2_with (first | ((with_reducible refine gate_callee (f := 25) rfl ?_); refine goesL_ (some 40) rfl rfl Tryd.func25 (by kernel_rfl) rfl #[.int .i64 (l0_2.length : Int)] rfl (by (try simp only [List.map_toArray, List.map_cons, List.map_nil]); first | done | rfl | (simp only [List.length_drop, List.length_take]; rfl)) ?_; (with_reducible refine (graftageref14_Digits.calls k1 (l0_2.length : Int) t369 _ A20.out).mono ?_); rintro e w23 ⟨rfl, hb⟩; refine ⟨_, rfl, ?_⟩; have n0_ := Aside0.mk (blk_below (g := gb364) (o := .cells #[.int .i64 a0_0, .slice A0_1 l0_1.length c0_1, .slice A0_2 l0_2.length c0_2, .int .i64 a0_3, .string a0_4] 36 (0, 0)) (by (with_reducible repeat (first | refine blk_drewN ?_ _ | refine blk_drew ?_ | refine blk_alloc ?_ _)); exact BK364.out) hb); have n1_ := Aside0.mk (below_step (by repeat (first | (with_reducible first | exact HB.out | apply below_alloc | apply pw_below_drewN | apply below_drew1 | refine below_set ?_ GE364.out) | exact HB.out)) hb); clear BK364; clear HB; have BK364 := n0_; have HB := n1_; clear n0_ n1_; (try clear hb); (try clear hb2); (try clear hk); (try clear hi)))
          go_loopg [3, 5] k1 (fun kq v3 v5 w' => ∃ (x3_2 : ByteArray) (x5_2 : Int), v3 = .string x3_2 ∧ v5 = .int .i64 x5_2 ∧ Aside0 (graftageref56_Text.l1 kq x3_2 x5_2 a0_0 l0_1 l0_2 a0_3 a0_4 = some r) ∧ Aside0 (kq ≤ k1) ∧ Aside0 (w'.heap[gb364]? = some (.cells #[.int .i64 a0_0, (.slice A0_1 l0_1.length c0_1), (.slice A0_2 l0_2.length c0_2), .int .i64 a0_3, .string a0_4] 36 (0, 0))) ∧ Aside0 (Below w.heap.size w w'))
          case atStart => exact ⟨((x3_1 ++ (⟨#[32]⟩ : ByteArray)) ++ t369), (0), (by first | rfl | (simp; done) | (simp [*]; done)), (by first | rfl | (simp; done) | (simp [*]; done)), H', ⟨Nat.le_refl _⟩, ⟨by (with_reducible repeat (first | refine blk_drewN ?_ _ | refine blk_drew ?_ | refine blk_alloc ?_ _)); exact BK364.out⟩, ⟨by repeat (first | (with_reducible first | exact HB.out | apply below_alloc | apply pw_below_drewN | apply below_drew1 | refine below_set ?_ GE364.out) | exact HB.out)⟩⟩
          case round =>
           clear H'
           try clear c1
           try clear c2
           try clear p2
           try clear c3
           try clear c3b0
           try clear c3b1
           try clear c3b2
           try clear p3
           try clear q3
           try clear hx3
           try clear c5
           try clear c5b0
           try clear c5b1
           try clear c5b2
           try clear c6
           try clear c6b0
           try clear c6b1
           try clear c6b2
           try clear p6
           try clear c8
           try clear c8b0
           try clear c8b1
           try clear c8b2
           try clear c14
           try clear c14b0
           try clear c15
           try clear c15b0
           try clear c15b1
           try clear c15b2
           try clear c16
           try clear c16b0
           try clear c17
           try clear c17b0
           try clear c17b1
           try clear c17b2
           try clear c19
           try clear c19b0
           try clear c19b1
           try clear c19b2
           try clear c21
           try clear c21b0
           try clear c21b1
           try clear c21b2
           try clear hcz18_0
           try clear hcz18_1
           try clear hcz18_2
           try clear hcz18_3
           try clear hcz18_4
           try clear hcz22_0
           try clear hcz22_1
           try clear hcz22_2
           try clear hcz22_3
           try clear hcz22_4
           try clear hfz18_0
           try clear hfz18_1
           try clear hfz18_2
           try clear hfz18_3
           try clear hfz18_4
           try clear hfz22_0
           try clear hfz22_1
           try clear hfz22_2
           try clear hfz22_3
           try clear hfz22_4
           try clear hx368_0
           try clear p2
           try clear p368
           try clear q368
           obtain ⟨x3_2, x5_2, rfl, rfl, HA, HK2, BK364, HB⟩ := hrel
           cases gk with
           | zero => exact absurd HA.out (by simp [graftageref56_Text.l1])
           | succ k2 =>
            have H := HA.out
            clear HA
            simp only [graftageref56_Text.l1] at H
            by_cases c24 : x5_2 < (l0_2.length : Int)
            ·rw [if_pos c24] at H
             have c24b0 : decide (x5_2 < (l0_2.length : Int)) = true := decide_eq_true c24
             clear c24
             by_cases c25 : x3_2.size + 1 ≤ 9223372036854775807
             ·rw [if_pos c25] at H
              have c25b0 := eq_true c25
              have c25b1 : decide (x3_2.size + 1 ≤ 9223372036854775807) = true := decide_eq_true c25
              try have c25b2 : (9223372036854775807 < x3_2.size + 1) = False := eq_false (Nat.not_lt.2 c25)
              by_cases c26 : 0 ≤ x5_2
              ·rw [if_pos c26] at H
               have c26b0 : decide (0 ≤ x5_2) = true := decide_eq_true c26
               clear c26
               replace H := Option.bind_eq_some_iff.mp H
               obtain ⟨t371, A270, H⟩ := H
               replace H : (if (x3_2 ++ (⟨#[32]⟩ : ByteArray)).size + t371.size ≤ 9223372036854775807 then (graftageref56_Text.l1 k2 ((x3_2 ++ (⟨#[32]⟩ : ByteArray)) ++ t371) (wrap64 (x5_2 + 1)) a0_0 l0_1 l0_2 a0_3 a0_4) else (none)) = some r := H
               have A27 := Aside0.mk A270
               clear A270
               by_cases c28 : (x3_2 ++ (⟨#[32]⟩ : ByteArray)).size + t371.size ≤ 9223372036854775807
               ·rw [if_pos c28] at H
                have c28b0 := eq_true c28
                have c28b1 : decide ((x3_2 ++ (⟨#[32]⟩ : ByteArray)).size + t371.size ≤ 9223372036854775807) = true := decide_eq_true c28
                try have c28b2 : (9223372036854775807 < (x3_2 ++ (⟨#[32]⟩ : ByteArray)).size + t371.size) = False := eq_false (Nat.not_lt.2 c28)
                try (have c28b3 := c28b2; simp only [ByteArray.size_append] at c28b3)
                try (have c28b4 := c28b2; simp only [ByteArray.size_append, show (⟨#[32]⟩ : ByteArray).size = 1 from rfl, show (⟨#[10]⟩ : ByteArray).size = 1 from rfl] at c28b4)
                have H' := Aside0.mk H
                clear H
                have hcz29_0 : wr.cell? ⟨gb364, 0, none⟩ = some (.int .i64 a0_0) := (blk_cell BK364.out 0).trans rfl
                have hcz29_1 : wr.cell? ⟨gb364, 1, none⟩ = some (.slice A0_1 l0_1.length c0_1) := (blk_cell BK364.out 1).trans rfl
                have hcz29_2 : wr.cell? ⟨gb364, 2, none⟩ = some (.slice A0_2 l0_2.length c0_2) := (blk_cell BK364.out 2).trans rfl
                have hcz29_3 : wr.cell? ⟨gb364, 3, none⟩ = some (.int .i64 a0_3) := (blk_cell BK364.out 3).trans rfl
                have hcz29_4 : wr.cell? ⟨gb364, 4, none⟩ = some (.string a0_4) := (blk_cell BK364.out 4).trans rfl
                have hfz29_0 := blk_frozen BK364.out 0
                have hfz29_1 := blk_frozen BK364.out 1
                have hfz29_2 := blk_frozen BK364.out 2
                have hfz29_3 := blk_frozen BK364.out 3
                have hfz29_4 := blk_frozen BK364.out 4
                have p370 : 0 ≤ (x5_2 : Int) := of_decide_eq_true (by first | (with_reducible assumption) | assumption)
                have q370 : x5_2 < (l0_2.length : Int) := of_decide_eq_true (by first | (with_reducible assumption) | assumption)
                obtain ⟨ad370, e370, hx370_0⟩ := Kd.at_string HR0_2.out x5_2 p370 q370
                cases e370
                replace hx370_0 := (HB.out.cell (World.block_lt_of_cell? w _ hx370_0)).trans hx370_0
                replace p370 := eq_true p370
                replace q370 := eq_true q370
                go_wp2_with (first | ((with_reducible refine gate_callee (f := 26) rfl ?_); refine goesL_ (some 56) rfl rfl Tryd.func26 (by kernel_rfl) rfl #[.string (rdOf ByteArray.empty l0_2 x5_2)] rfl (by (try simp only [List.map_toArray, List.map_cons, List.map_nil]); first | done | rfl | (simp only [List.length_drop, List.length_take]; rfl)) ?_; (with_reducible refine (graftageref56_Word.calls k2 (rdOf ByteArray.empty l0_2 x5_2) t371 _ A27.out).mono ?_); rintro e w30 ⟨rfl, hb⟩; refine ⟨_, rfl, ?_⟩; have n0_ := Aside0.mk (blk_below (g := gb364) (o := .cells #[.int .i64 a0_0, .slice A0_1 l0_1.length c0_1, .slice (some ad370) l0_2.length c0_2, .int .i64 a0_3, .string a0_4] 36 (0, 0)) (by (with_reducible repeat (first | refine blk_drewN ?_ _ | refine blk_drew ?_ | refine blk_alloc ?_ _)); exact BK364.out) hb); have n1_ := Aside0.mk (below_step (by repeat (first | (with_reducible first | exact HB.out | apply below_alloc | apply pw_below_drewN | apply below_drew1 | refine below_set ?_ GE364.out) | exact HB.out)) hb); clear BK364; clear HB; have BK364 := n0_; have HB := n1_; clear n0_ n1_; (try clear hb); (try clear hb2); (try clear hk); (try clear hi)))
                go_roundg k2
                case measure => have := HK1.out; have := HK2.out; omega
                case rel => exact ⟨((x3_2 ++ (⟨#[32]⟩ : ByteArray)) ++ t371), (wrap64 (x5_2 + 1)), (by first | rfl | (simp; done) | (simp [*]; done)), (by first | rfl | (simp; done) | (simp [*]; done)), H', ⟨by have := HK1.out; have := HK2.out; omega⟩, ⟨by (with_reducible repeat (first | refine blk_drewN ?_ _ | refine blk_drew ?_ | refine blk_alloc ?_ _)); exact BK364.out⟩, ⟨by repeat (first | (with_reducible first | exact HB.out | apply below_alloc | apply pw_below_drewN | apply below_drew1 | refine below_set ?_ GE364.out) | exact HB.out)⟩⟩
               ·rw [if_neg c28] at H
                exact absurd H (by simp)
              ·rw [if_neg c26] at H
               exact absurd H (by simp)
             ·rw [if_neg c25] at H
              exact absurd H (by simp)
            ·rw [if_neg c24] at H
             have c24b0 : decide (x5_2 < (l0_2.length : Int)) = false := decide_eq_false c24
             clear c24
             by_cases c31 : x3_2.size + 1 ≤ 9223372036854775807
             ·rw [if_pos c31] at H
              have c31b0 := eq_true c31
              have c31b1 : decide (x3_2.size + 1 ≤ 9223372036854775807) = true := decide_eq_true c31
              try have c31b2 : (9223372036854775807 < x3_2.size + 1) = False := eq_false (Nat.not_lt.2 c31)
              replace H := Option.bind_eq_some_iff.mp H
              obtain ⟨t372, A320, H⟩ := H
              replace H : (if (x3_2 ++ (⟨#[32]⟩ : ByteArray)).size + t372.size ≤ 9223372036854775807 then (some ((x3_2 ++ (⟨#[32]⟩ : ByteArray)) ++ t372)) else (none)) = some r := H
              have A32 := Aside0.mk A320
              clear A320
              by_cases c33 : (x3_2 ++ (⟨#[32]⟩ : ByteArray)).size + t372.size ≤ 9223372036854775807
              ·rw [if_pos c33] at H
               have c33b0 := eq_true c33
               have c33b1 : decide ((x3_2 ++ (⟨#[32]⟩ : ByteArray)).size + t372.size ≤ 9223372036854775807) = true := decide_eq_true c33
               try have c33b2 : (9223372036854775807 < (x3_2 ++ (⟨#[32]⟩ : ByteArray)).size + t372.size) = False := eq_false (Nat.not_lt.2 c33)
               try (have c33b3 := c33b2; simp only [ByteArray.size_append] at c33b3)
               try (have c33b4 := c33b2; simp only [ByteArray.size_append, show (⟨#[32]⟩ : ByteArray).size = 1 from rfl, show (⟨#[10]⟩ : ByteArray).size = 1 from rfl] at c33b4)
               obtain rfl := Option.some.inj H
               have hcz34_0 : wr.cell? ⟨gb364, 0, none⟩ = some (.int .i64 a0_0) := (blk_cell BK364.out 0).trans rfl
               have hcz34_1 : wr.cell? ⟨gb364, 1, none⟩ = some (.slice A0_1 l0_1.length c0_1) := (blk_cell BK364.out 1).trans rfl
               have hcz34_2 : wr.cell? ⟨gb364, 2, none⟩ = some (.slice A0_2 l0_2.length c0_2) := (blk_cell BK364.out 2).trans rfl
               have hcz34_3 : wr.cell? ⟨gb364, 3, none⟩ = some (.int .i64 a0_3) := (blk_cell BK364.out 3).trans rfl
               have hcz34_4 : wr.cell? ⟨gb364, 4, none⟩ = some (.string a0_4) := (blk_cell BK364.out 4).trans rfl
               have hfz34_0 := blk_frozen BK364.out 0
               have hfz34_1 := blk_frozen BK364.out 1
               have hfz34_2 := blk_frozen BK364.out 2
               have hfz34_3 := blk_frozen BK364.out 3
               have hfz34_4 := blk_frozen BK364.out 4
               go_wp2_with (first | ((with_reducible refine gate_callee (f := 26) rfl ?_); refine goesL_ (some 62) rfl rfl Tryd.func26 (by kernel_rfl) rfl #[.string a0_4] rfl (by (try simp only [List.map_toArray, List.map_cons, List.map_nil]); first | done | rfl | (simp only [List.length_drop, List.length_take]; rfl)) ?_; (with_reducible refine (graftageref56_Word.calls k2 a0_4 t372 _ A32.out).mono ?_); rintro e w35 ⟨rfl, hb⟩; refine ⟨_, rfl, ?_⟩; have n0_ := Aside0.mk (blk_below (g := gb364) (o := .cells #[.int .i64 a0_0, .slice A0_1 l0_1.length c0_1, .slice A0_2 l0_2.length c0_2, .int .i64 a0_3, .string a0_4] 36 (0, 0)) (by (with_reducible repeat (first | refine blk_drewN ?_ _ | refine blk_drew ?_ | refine blk_alloc ?_ _)); exact BK364.out) hb); have n1_ := Aside0.mk (below_step (by repeat (first | (with_reducible first | exact HB.out | apply below_alloc | apply pw_below_drewN | apply below_drew1 | refine below_set ?_ GE364.out) | exact HB.out)) hb); clear BK364; clear HB; have BK364 := n0_; have HB := n1_; clear n0_ n1_; (try clear hb); (try clear hb2); (try clear hk); (try clear hi)))
               go_ret
               exact ⟨by first | rfl | (simp [errW_none, errW_some] <;> rfl) | (simp [*, errW_none, errW_some] <;> rfl), by repeat (first | (with_reducible first | exact HB.out | apply below_alloc | apply pw_below_drewN | apply below_drew1 | refine below_set ?_ GE364.out) | exact HB.out)⟩
              ·rw [if_neg c33] at H
               exact absurd H (by simp)
             ·rw [if_neg c31] at H
              exact absurd H (by simp)
         ·rw [if_neg c21] at H
          exact absurd H (by simp)
        ·rw [if_neg c19] at H
         exact absurd H (by simp)
    ·rw [if_neg c8] at H
     exact absurd H (by simp)
   ·rw [if_neg c6] at H
    exact absurd H (by simp)
  ·rw [if_neg c5] at H
   exact absurd H (by simp)
 ·rw [if_neg c3] at H
  exact absurd H (by simp)
end Go.Proofs.YtcmemgahgenpdaaDoor.PSc
end
section
namespace Go.Proofs.YtcmemgahgenpdaaDoor.Hand
open Go.RowKit Go.Proofs.YtcmemgahgenpdaaDoorW.PrintWords Go.Proofs.YtcmemgahgenpdaaDoorW.PrintLast Go.Proofs.YtcmemgahgenpdaaDoorW.PrintMore
open Go.Proofs.YtcmemgahgenpdaaDoor.PSc
set_option linter.unusedVariables false
set_option linter.unusedSimpArgs false
def script_Transcript.g (k : Nat) : List S36 → ByteArray → Option ByteArray
  | [], b => some b
  | x :: l, b => (script_Text.f k x.f0 x.f1 x.f2 x.f3 x.f4).bind fun t => if b.size + (t.size + 1) ≤ 140737488355328 then script_Transcript.g k l (b ++ (t ++ ⟨#[10]⟩)) else none
def script_Transcript.f (k : Nat) (l : List S36) : Option ByteArray := if l.length ≤ 140737488355328 then script_Transcript.g k l ⟨#[]⟩ else none
theorem drop_reply (l : List S36) (k : Nat) (hk : k < l.length) : l.drop k = rd_T36 l (k : Int) :: l.drop (k + 1) := by
  rw [List.drop_eq_getElem_cons hk]
  simp [rd_T36, hk]
def Rp (w : World) (g : Nat) (e : Int) (a b : Value) (n : Int) (t : ByteArray) : Prop := w.heap[g]? = some (.cells #[.int .i64 e, a, b, .int .i64 n, .string t] 36 (0, 0))
section
variable {w w' : World} {g : Nat} {e n : Int} {a b : Value} {t : ByteArray}
theorem Rp.c0 (h : Rp w g e a b n t) : w.cell? ⟨g, 0, none⟩ = some (.int .i64 e) := by rw [Lib.cell_of_heap h]; rfl
theorem Rp.c1 (h : Rp w g e a b n t) : w.cell? ⟨g, 1, none⟩ = some a := by rw [Lib.cell_of_heap h]; rfl
theorem Rp.c2 (h : Rp w g e a b n t) : w.cell? ⟨g, 2, none⟩ = some b := by rw [Lib.cell_of_heap h]; rfl
theorem Rp.c3 (h : Rp w g e a b n t) : w.cell? ⟨g, 3, none⟩ = some (.int .i64 n) := by rw [Lib.cell_of_heap h]; rfl
theorem Rp.c4 (h : Rp w g e a b n t) : w.cell? ⟨g, 4, none⟩ = some (.string t) := by rw [Lib.cell_of_heap h]; rfl
end
def ToldRel (kk : Nat) (w : World) (B : Nat) (l : List S36) (r : ByteArray) (kv : Value) (wr : World) : Prop :=
  ∃ (k : Nat) (b : ByteArray), kv = .int .i64 k ∧ k ≤ l.length ∧ IsB wr B B b ∧ script_Transcript.g kk (l.drop k) b = some r ∧ Below w.heap.size w wr
set_option maxHeartbeats 2000000 in
set_option maxRecDepth 100000 in
theorem script_Transcript.calls (kk : Nat) (A0 : Option Addr) (c0 : Nat) (l : List S36) (r : ByteArray) (w : World) (hr0 : Kd.C k36 w A0 l.length l) (hc0 : l.length ≤ c0) (hWd : Wds w) (h : script_Transcript.f kk l = some r) :
    Calls Tryd.prog 15 #[.slice A0 l.length c0] w fun e w' => e = .returned (.string r) ∧ Below w.heap.size w w' := by
  have HR0 := Aside0.mk hr0
  have HW := Lib.hid hWd
  unfold script_Transcript.f at h
  have hl : l.length ≤ 140737488355328 := by
    by_cases c : l.length ≤ 140737488355328
    · exact c
    · rw [if_neg c] at h; cases h
  rw [if_pos hl] at h
  have HR := Lib.hid h
  clear hr0 hWd h
  go_enter Tryd.func15, Tryd.ntmps15
  go_wp2
  go_loopw [8] (fun kv wr => ToldRel kk w w.heap.size l r kv wr) (fun kv _ => l.length - (intOf kv).toNat)
  case atStart => exact ⟨0, ⟨#[]⟩, rfl, by omega, IsB.fresh w _ (Nat.le_refl _), HR.out, (Below.refl _ w).alloc (Nat.le_refl _) _⟩
  case round =>
    obtain ⟨k, b, rfl, hk, hb, hj, hbel⟩ := hrel
    clear HR
    by_cases c : (k : Int) < (l.length : Int)
    · have cb : decide ((k : Int) < (l.length : Int)) = true := decide_eq_true c
      have i0 : 0 ≤ (k : Int) := by omega
      have hlt : k < l.length := by omega
      obtain ⟨ad, A1, c1, A2, c2, e, h0, h1, h2, h3, h4, l1, g1, l2, g2⟩ := at_T36 HR0.out (k : Int) i0 c
      cases e
      replace h0 := (hbel.cell (World.block_lt_of_cell? w _ h0)).trans h0
      replace h1 := (hbel.cell (World.block_lt_of_cell? w _ h1)).trans h1
      replace h2 := (hbel.cell (World.block_lt_of_cell? w _ h2)).trans h2
      replace h3 := (hbel.cell (World.block_lt_of_cell? w _ h3)).trans h3
      replace h4 := (hbel.cell (World.block_lt_of_cell? w _ h4)).trans h4
      simp only [Int.toNat_natCast] at h0 h1 h2 h3 h4
      rw [drop_reply l k hlt, script_Transcript.g] at hj
      generalize rd_T36 l (k : Int) = x at *
      have q4 : IntKind.i64.wrap ((k : Int) + 1) = (k : Int) + 1 := by rw [i64_w]; exact wrap64_id (by omega) (by omega)
      obtain ⟨t, ht, hj2⟩ := Option.bind_eq_some_iff.1 hj
      have hsz : b.size + (t.size + 1) ≤ 140737488355328 := by
        by_cases c : b.size + (t.size + 1) ≤ 140737488355328
        · exact c
        · rw [if_neg c] at hj2; cases hj2
      rw [if_pos hsz] at hj2
      have HJ := Lib.hid hj2
      have HT := Lib.hid ht
      have hT0 : Rp (wr.alloc (.cells #[.int .i64 x.f0, .slice A1 x.f1.length c1, .slice A2 x.f2.length c2, .int .i64 x.f3, .string x.f4] 36)) wr.heap.size x.f0 (.slice A1 x.f1.length c1) (.slice A2 x.f2.length c2) x.f3 x.f4 := heap_alloc_new wr _
      have t0 := hT0.c0
      have t1 := hT0.c1
      have t2 := hT0.c2
      have t3 := hT0.c3
      have t4 := hT0.c4
      have hI0 := hb.alloc (.cells #[.int .i64 x.f0, .slice A1 x.f1.length c1, .slice A2 x.f2.length c2, .int .i64 x.f3, .string x.f4] 36)
      have hU0 := hbel.alloc hbel.size (.cells #[.int .i64 x.f0, .slice A1 x.f1.length c1, .slice A2 x.f2.length c2, .int .i64 x.f3, .string x.f4] 36)
      have hWs := HW.out.below hU0
      have g1' := Kd.C_below g1 hU0
      have g2' := Kd.C_below g2 hU0
      clear hj hj2 ht hbel hb hT0 g1 g2
      have o2 : (⟨#[10]⟩ : ByteArray).size = 1 := rfl
      have s1 : (9223372036854775807 < t.size + 1) = False := eq_false (by omega)
      go_wp2_with fail
      refine (script_Text.calls kk x.f0 A1 c1 x.f1 A2 c2 x.f2 x.f3 x.f4 t _ g1' l1 g2' l2 hWs HT.out).mono ?_
      rintro e w1 ⟨rfl, hb1⟩
      have hI1 := hI0.below hb1
      have hU1 := hU0.trans (hb1.mono hU0.size)
      clear hI0 hU0 hWs hb1 g1' g2'
      go_wp2_with fail
      refine (writeString_any w.heap.size w.heap.size b (t ++ (⟨#[10]⟩ : ByteArray)) _ hI1 (by rw [size_append, o2]; exact hsz) hU1.size).mono ?_
      rintro e w2 ⟨rfl, hI2, hB2⟩
      have hU2 := hU1.trans hB2
      clear hI1 hU1 hB2
      go_wp2
      exact ⟨⟨k + 1, _, by simp, by omega, hI2, HJ.out, hU2⟩, by simp [intOf]; omega⟩
    · have cb : decide ((k : Int) < (l.length : Int)) = false := decide_eq_false c
      obtain rfl : k = l.length := by omega
      rw [List.drop_length, script_Transcript.g] at hj
      obtain rfl := Option.some.inj hj
      go_wp2_with fail
      refine (string_any w.heap.size w.heap.size b _ hb hbel.size).mono ?_
      rintro e w2 ⟨rfl, hb2⟩
      go_wp2
      go_ret
      exact ⟨rfl, hbel.trans hb2⟩
end Go.Proofs.YtcmemgahgenpdaaDoor.Hand
end
section
namespace Go.Proofs.YtcmemgahgenpdaaDoor.PSc
open Go.Proofs.YtcmemgahgenpdaaDoor.Hand Go.RowKit Go.Proofs.YtcmemgahgenpdaaDoorW.PrintWords Go.Proofs.YtcmemgahgenpdaaDoorW.PrintLast Go.Proofs.YtcmemgahgenpdaaDoorW.PrintMore
attribute [local go_sem] max2_int min2_int max_two min_two max_three min_three max_four min_four
set_option linter.unusedVariables false
set_option linter.unusedSimpArgs false
def graftageref56_Told.l0 : Nat → List (S36) → ByteArray → Int → Option (ByteArray)
 | 0, _, _, _ => none
 | k + 1, x0, x3, x4 => if x4 < (x0.length : Int) then (if 0 ≤ x4 then ((graftageref56_Text.f k ((rd_T36 x0 x4).f0) ((rd_T36 x0 x4).f1) ((rd_T36 x0 x4).f2) ((rd_T36 x0 x4).f3) ((rd_T36 x0 x4).f4)).bind fun t374 => (if x3.size + t374.size ≤ 9223372036854775807 then (if (x3 ++ t374).size + 1 ≤ 9223372036854775807 then (graftageref56_Told.l0 k x0 ((x3 ++ t374) ++ (⟨#[10]⟩ : ByteArray)) (wrap64 (x4 + 1))) else (none)) else (none))) else (none)) else (some x3)
def graftageref56_Told.f (k : Nat) (l0 : List (S36)) : Option (ByteArray) := graftageref56_Told.l0 k l0 (⟨#[]⟩ : ByteArray) 0
set_option maxHeartbeats 8000000 in
set_option maxRecDepth 100000 in
theorem graftageref56_Told.calls (k : Nat) (A0 : Option Addr) (c0 : Nat) (l0 : List (S36)) (r : ByteArray) (w : World) (hr0 : Kd.C k36 w A0 l0.length l0) (hc0 : l0.length ≤ c0) (h : graftageref56_Told.f k l0 = some r) :
  Calls Tryd.prog 16 #[.slice A0 l0.length c0] w fun e w' => e = .returned (.string r) ∧ Below w.heap.size w w' := by
 have hu36 := Tryd.underlying36
 have HR0 := Aside0.mk hr0
 have HC0 := Aside0.mk hc0
 clear hr0 hc0
 have HB := Aside0.mk (Below.refl w.heap.size w)
 have H : (graftageref56_Told.l0 k l0 (⟨#[]⟩ : ByteArray) 0) = some r := h
 clear h
 have H' := Aside0.mk H
 clear H
 go_enter Tryd.func16, Tryd.ntmps16
 go_wp2
 go_loopg [3, 4] k (fun kq v3 v4 w' => ∃ (x3_1 : ByteArray) (x4_1 : Int), v3 = .string x3_1 ∧ v4 = .int .i64 x4_1 ∧ Aside0 (graftageref56_Told.l0 kq l0 x3_1 x4_1 = some r) ∧ Aside0 (kq ≤ k) ∧ Aside0 (Below w.heap.size w w'))
 case atStart => exact ⟨((⟨#[]⟩ : ByteArray)), (0), (by first | rfl | (simp; done) | (simp [*]; done)), (by first | rfl | (simp; done) | (simp [*]; done)), H', ⟨Nat.le_refl _⟩, ⟨by repeat (first | (with_reducible first | exact HB.out | apply below_alloc | apply pw_below_drewN | apply below_drew1) | exact HB.out)⟩⟩
 case round =>
  clear H'
  try clear c1
  obtain ⟨x3_1, x4_1, rfl, rfl, HA, HK1, HB⟩ := hrel
  cases gk with
  | zero => exact absurd HA.out (by simp [graftageref56_Told.l0])
  | succ k1 =>
   have H := HA.out
   clear HA
   simp only [graftageref56_Told.l0] at H
   by_cases c2 : x4_1 < (l0.length : Int)
   ·rw [if_pos c2] at H
    have c2b0 : decide (x4_1 < (l0.length : Int)) = true := decide_eq_true c2
    clear c2
    by_cases c3 : 0 ≤ x4_1
    ·rw [if_pos c3] at H
     have c3b0 : decide (0 ≤ x4_1) = true := decide_eq_true c3
     clear c3
     replace H := Option.bind_eq_some_iff.mp H
     obtain ⟨t374, A40, H⟩ := H
     replace H : (if x3_1.size + t374.size ≤ 9223372036854775807 then (if (x3_1 ++ t374).size + 1 ≤ 9223372036854775807 then (graftageref56_Told.l0 k1 l0 ((x3_1 ++ t374) ++ (⟨#[10]⟩ : ByteArray)) (wrap64 (x4_1 + 1))) else (none)) else (none)) = some r := H
     have A4 := Aside0.mk A40
     clear A40
     by_cases c5 : x3_1.size + t374.size ≤ 9223372036854775807
     ·rw [if_pos c5] at H
      have c5b0 := eq_true c5
      have c5b1 : decide (x3_1.size + t374.size ≤ 9223372036854775807) = true := decide_eq_true c5
      try have c5b2 : (9223372036854775807 < x3_1.size + t374.size) = False := eq_false (Nat.not_lt.2 c5)
      by_cases c6 : (x3_1 ++ t374).size + 1 ≤ 9223372036854775807
      ·rw [if_pos c6] at H
       have c6b0 := eq_true c6
       have c6b1 : decide ((x3_1 ++ t374).size + 1 ≤ 9223372036854775807) = true := decide_eq_true c6
       try have c6b2 : (9223372036854775807 < (x3_1 ++ t374).size + 1) = False := eq_false (Nat.not_lt.2 c6)
       try (have c6b3 := c6b2; simp only [ByteArray.size_append] at c6b3)
       try (have c6b4 := c6b2; simp only [ByteArray.size_append, show (⟨#[32]⟩ : ByteArray).size = 1 from rfl, show (⟨#[10]⟩ : ByteArray).size = 1 from rfl] at c6b4)
       have H' := Aside0.mk H
       clear H
       have p373 : 0 ≤ (x4_1 : Int) := of_decide_eq_true (by first | (with_reducible assumption) | assumption)
       have q373 : x4_1 < (l0.length : Int) := of_decide_eq_true (by first | (with_reducible assumption) | assumption)
       obtain ⟨ad373, A373_1, c373_1, A373_2, c373_2, e373, hx373_0, hx373_1, hx373_2, hx373_3, hx373_4, hl373_1, hi373_1, hl373_2, hi373_2⟩ := at_T36 HR0.out x4_1 p373 q373
       cases e373
       replace hx373_0 := (HB.out.cell (World.block_lt_of_cell? w _ hx373_0)).trans hx373_0
       replace hx373_1 := (HB.out.cell (World.block_lt_of_cell? w _ hx373_1)).trans hx373_1
       replace hx373_2 := (HB.out.cell (World.block_lt_of_cell? w _ hx373_2)).trans hx373_2
       replace hx373_3 := (HB.out.cell (World.block_lt_of_cell? w _ hx373_3)).trans hx373_3
       replace hx373_4 := (HB.out.cell (World.block_lt_of_cell? w _ hx373_4)).trans hx373_4
       have HR373_1 := Aside0.mk hi373_1
       have HC373_1 := Aside0.mk hl373_1
       clear hi373_1 hl373_1
       have HR373_2 := Aside0.mk hi373_2
       have HC373_2 := Aside0.mk hl373_2
       clear hi373_2 hl373_2
       replace p373 := eq_true p373
       replace q373 := eq_true q373
       go_wp2_with (first | ((with_reducible refine gate_callee (f := 14) rfl ?_); refine goesL_ (some 16) rfl rfl Tryd.func14 (by kernel_rfl) rfl #[.agg #[.int .i64 ((rd_T36 l0 x4_1).f0), .slice A373_1 ((rd_T36 l0 x4_1).f1).length c373_1, .slice A373_2 ((rd_T36 l0 x4_1).f2).length c373_2, .int .i64 ((rd_T36 l0 x4_1).f3), .string ((rd_T36 l0 x4_1).f4)]] rfl (by (try simp only [List.map_toArray, List.map_cons, List.map_nil]); first | done | rfl | (simp only [List.length_drop, List.length_take]; rfl)) ?_; (with_reducible refine (graftageref56_Text.calls k1 ((rd_T36 l0 x4_1).f0) _ _ ((rd_T36 l0 x4_1).f1) _ _ ((rd_T36 l0 x4_1).f2) ((rd_T36 l0 x4_1).f3) ((rd_T36 l0 x4_1).f4) t374 _ ?side1 ?side2 ?side3 ?side4 A4.out).mono ?_); (case side1 => repeat (first | exact (Kd.C_below HR373_1.out HB.out) | (with_reducible refine Kd.C_alloc ?_ _) | (with_reducible refine Kd.C_drewN ?_ _) | (with_reducible refine Kd.C_drew ?_))); (case side2 => exact HC373_1.out); (case side3 => repeat (first | exact (Kd.C_below HR373_2.out HB.out) | (with_reducible refine Kd.C_alloc ?_ _) | (with_reducible refine Kd.C_drewN ?_ _) | (with_reducible refine Kd.C_drew ?_))); (case side4 => exact HC373_2.out); rintro e w7 ⟨rfl, hb⟩; refine ⟨_, rfl, ?_⟩; have n0_ := Aside0.mk (below_step (by repeat (first | (with_reducible first | exact HB.out | apply below_alloc | apply pw_below_drewN | apply below_drew1) | exact HB.out)) hb); clear HB; have HB := n0_; clear n0_; (try clear hb); (try clear hb2); (try clear hk); (try clear hi)))
       go_roundg k1
       case measure => have := HK1.out; omega
       case rel => exact ⟨((x3_1 ++ t374) ++ (⟨#[10]⟩ : ByteArray)), (wrap64 (x4_1 + 1)), (by first | rfl | (simp; done) | (simp [*]; done)), (by first | rfl | (simp; done) | (simp [*]; done)), H', ⟨by have := HK1.out; omega⟩, ⟨by repeat (first | (with_reducible first | exact HB.out | apply below_alloc | apply pw_below_drewN | apply below_drew1) | exact HB.out)⟩⟩
      ·rw [if_neg c6] at H
       exact absurd H (by simp)
     ·rw [if_neg c5] at H
      exact absurd H (by simp)
    ·rw [if_neg c3] at H
     exact absurd H (by simp)
   ·rw [if_neg c2] at H
    have c2b0 : decide (x4_1 < (l0.length : Int)) = false := decide_eq_false c2
    clear c2
    obtain rfl := Option.some.inj H
    go_wp2
    go_ret
    exact ⟨by first | rfl | (simp [errW_none, errW_some] <;> rfl) | (simp [*, errW_none, errW_some] <;> rfl), by repeat (first | (with_reducible first | exact HB.out | apply below_alloc | apply pw_below_drewN | apply below_drew1) | exact HB.out)⟩
end Go.Proofs.YtcmemgahgenpdaaDoor.PSc
end
