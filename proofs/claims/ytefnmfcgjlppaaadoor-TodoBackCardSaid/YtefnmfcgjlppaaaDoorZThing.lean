/- todo.Check, by hand. -/
import Derived.Test.YtefnmfcgjlppaaaDoorZKind
import Derived.BigQuiet
import Derived.Deep.QuietTactic
import Derived.Lib.Hide
import Derived.Test.YtefnmfcgjlppaaaDoorZP4
import Derived.OrdersHeld
import Derived.Deep.RegionHeldLaw
import Derived.Test.YtefnmfcgjlppaaaDoorZLib
import Derived.OneCell
import Derived.OwnWalk
import Derived.WalkSpells
import Derived.Deep.RegionLaw
import Derived.RegionTactic
import Derived.BigRegion
import Derived.IntWalk
namespace Go.Proofs.YtefnmfcgjlppaaaDoor.Hand
open Go.RowKit Go.Proofs.YtefnmfcgjlppaaaDoorW.PrintWords Go.Proofs.YtefnmfcgjlppaaaDoorW.PrintLast Go.Proofs.YtefnmfcgjlppaaaDoorW.PrintMore
open Go.Proofs.YtefnmfcgjlppaaaDoor.PTd
set_option linter.unusedVariables false
set_option linter.unusedSimpArgs false
/-- An instruction in block g. -/
def Td (w : World) (g : Nat) (a : Int) (b c : ByteArray) : Prop := w.heap[g]? = some (.cells #[.int .i64 a, .string b, .string c] 34 (0, 0))
theorem Td.c0 {w : World} {g : Nat} {a : Int} {b c : ByteArray} (h : Td w g a b c) : w.cell? ⟨g, 0, none⟩ = some (.int .i64 a) := by unfold Td at h; simp [World.cell?, h]
theorem Td.c1 {w : World} {g : Nat} {a : Int} {b c : ByteArray} (h : Td w g a b c) : w.cell? ⟨g, 1, none⟩ = some (.string b) := by unfold Td at h; simp [World.cell?, h]
theorem Td.c2 {w : World} {g : Nat} {a : Int} {b c : ByteArray} (h : Td w g a b c) : w.cell? ⟨g, 2, none⟩ = some (.string c) := by unfold Td at h; simp [World.cell?, h]
theorem Td.fr {w : World} {g : Nat} {a : Int} {b c : ByteArray} (h : Td w g a b c) (j : Nat) : w.frozen? ⟨g, j, none⟩ = false := by unfold Td at h; simp [World.frozen?, h]
theorem Td.lt {w : World} {g : Nat} {a : Int} {b c : ByteArray} (h : Td w g a b c) : g < w.heap.size := lt_of_block h
theorem Td.below {w w' : World} {g : Nat} {a : Int} {b c : ByteArray} (h : Td w g a b c) (hb : Below w.heap.size w w') : Td w' g a b c := (hb.block g h.lt).trans h
theorem run_enter {P : Program} {f : FuncId} {fn : Func} {c : Code} (hf : P.funcs[f]? = some fn) (hname : (fn.name == "runtime.NumGoroutine") = false) (hb : fn.body = some c) (args : Array Value) (w : World) :
    (callFunc f args).run P w = .ok (.enter f args) w := by
  have h1 : fn.name ≠ "runtime.NumGoroutine" := by simpa using hname
  simp [callFunc, hf, h1, hb]
theorem Td.alloc {w : World} {g : Nat} {a : Int} {b c : ByteArray} (h : Td w g a b c) (o : Obj) : Td (w.alloc o) g a b c := blk_alloc h o
def sameId (b : ByteArray) (x : S34) : Bool := x.f1.toList == b.toList
set_option maxHeartbeats 1000000 in
set_option maxRecDepth 100000 in
theorem check1_any (g : Nat) (a : Int) (b c : ByteArray) (x : S34) (w : World) (h : Td w g a b c) :
    Calls Tryd.prog 35 (#[.agg #[.int .i64 x.f0, .string x.f1, .string x.f2]] ++ #[.pointer (some ⟨g, 0, none⟩)]) w fun e w' => e = .returned (.bool (sameId b x)) ∧ Below w.heap.size w w' := by
  obtain ⟨x0, x1, x2⟩ := x
  unfold sameId
  have h1 := (h.alloc (.cells #[.int .i64 x0, .string x1, .string x2] 34)).c1
  go_enter Tryd.func35, Tryd.ntmps35
  go_wp2
  go_ret
  exact ⟨rfl, (Below.refl _ _).alloc (Nat.le_refl _) _⟩
theorem check1_tests (g : Nat) (a : Int) (b c : ByteArray) (w : World) (h : Td w g a b c) : Tests w 35 #[.pointer (some ⟨g, 0, none⟩)] (sameId b) where
  entered := fun args w => by
    obtain ⟨k, hk⟩ := Option.isSome_iff_exists.1 (show (Tryd.f35.body).isSome = true by kernel_rfl)
    exact run_enter Tryd.func35 (by kernel_rfl) hk args w
  tells := fun x wr hb => check1_any g a b c x wr (h.below hb)
set_option maxHeartbeats 1000000 in
set_option maxRecDepth 100000 in
theorem contains_any (f : FuncId) (fv : Array Value) (p : S34 → Bool) (A0 : Option Addr) (c0 : Nat) (l : List S34) (w : World) (hT : Tests w f fv p) (hr0 : Kd.C k34 w A0 l.length l) (hl : l.length ≤ 1000000000) :
    Calls Tryd.prog 34 #[.slice A0 l.length c0, .func (.func f) #[] fv] w fun e w' => e = .returned (.bool (decide (0 ≤ idxQ p l 0))) ∧ Below w.heap.size w w' := by
  have h := indexFunc_any f fv p A0 c0 l w hT hr0 hl
  generalize idxQ p l 0 = r at *
  have H := Lib.hid h
  clear h hr0 hT
  go_enter Tryd.func34, Tryd.ntmps34
  go_wp2_with (go_at_call 28; refine H.out.mono ?_; rintro e w1 ⟨rfl, hb⟩)
  go_ret
  exact ⟨rfl, hb⟩
def goodQ (x : S34) : Bool := (todo_good.f 60 x.f0 x.f1 x.f2).getD false
theorem is_up (s : ByteArray) : ∀ d, ident_Is.f (50 + d) s = some (isQ s)
  | 0 => isQ_f s
  | d + 1 => ident_Is.mono s (50 + d) _ (is_up s d)
theorem goodQ_f (x : S34) : todo_good.f 60 x.f0 x.f1 x.f2 = some (goodQ x) := by
  have : ∃ b, todo_good.f 60 x.f0 x.f1 x.f2 = some b := by
    unfold todo_good.f
    have key : ∀ b, ∃ r, todo_good.j0 60 b x.f0 x.f1 x.f2 = some r := by
      intro b
      rw [todo_good.j0]
      by_cases c : b = true
      · rw [if_pos c]; exact ⟨_, rfl⟩
      · rw [if_neg c]
        by_cases c7 : x.f0 = 7
        · rw [if_pos c7]
          split <;> exact ⟨_, rfl⟩
        · rw [if_neg c7, is_up x.f1 9, Option.bind_some]
          split
          · unfold strings_Contains.f strings_Index.f
            rw [if_pos (show (⟨#[10]⟩ : ByteArray).size = 1 from rfl), Option.bind_some, Option.bind_some]
            split <;> exact ⟨_, rfl⟩
          · exact ⟨_, rfl⟩
    split
    · exact key _
    · exact key _
  obtain ⟨b, hb⟩ := this
  unfold goodQ
  rw [hb]; rfl
def makesQ (x : S34) : Bool := decide (x.f0 = 1) || decide (x.f0 = 2) || decide (x.f0 = 3)
theorem makesQ_f (x : S34) : todo_makes.f x.f0 x.f1 x.f2 = some (makesQ x) := by
  unfold todo_makes.f makesQ
  split
  · simp [*]
  · split
    · simp [*]
    · simp [*]
      rfl
/-- What Check says of the instructions behind pre; ah: is there one ahead that makes a commit? -/
def checkL : List S34 → List S34 → Bool → Int
  | [], _, _ => 0
  | x :: l, pre, ah => if goodQ x = false then 1 else if (x.f1.toList != []) = true ∧ decide (0 ≤ idxQ (sameId x.f1) pre 0) = true then 6
    else if (x.f0 = 4 ∨ x.f0 = 5) ∧ ah = false then 420 else checkL l (pre ++ [x]) (ah || makesQ x)
def checkQ (l : List S34) : Int := if l.length > 256 then 4 else checkL l [] false
end Go.Proofs.YtefnmfcgjlppaaaDoor.Hand
/- todo.Check's walk, by hand. -/
namespace Go.Proofs.YtefnmfcgjlppaaaDoor.Hand
open Go.RowKit Go.Proofs.YtefnmfcgjlppaaaDoorW.PrintWords Go.Proofs.YtefnmfcgjlppaaaDoorW.PrintLast Go.Proofs.YtefnmfcgjlppaaaDoorW.PrintMore
open Go.Proofs.YtefnmfcgjlppaaaDoor.PTd
set_option linter.unusedVariables false
set_option linter.unusedSimpArgs false
def ChkRel (w : World) (l : List S34) (r : Int) (av iv : Value) (wr : World) : Prop :=
  ∃ (k : Nat) (ah : Bool), av = .bool ah ∧ iv = .int .i64 k ∧ k ≤ l.length ∧ checkL (l.drop k) (l.take k) ah = r ∧ Below w.heap.size w wr
theorem take_snoc (l : List S34) (k : Nat) (h : k < l.length) : l.take k ++ [rd_T34 l k] = l.take (k + 1) := by
  rw [List.take_add_one, List.getElem?_eq_getElem h]
  unfold rd_T34
  rw [Int.toNat_natCast, List.getD_eq_getElem?_getD, List.getElem?_eq_getElem h]; rfl
theorem drop_cons (l : List S34) (k : Nat) (h : k < l.length) : l.drop k = rd_T34 l k :: l.drop (k + 1) := by
  rw [List.drop_eq_getElem_cons h]
  congr 1
  unfold rd_T34
  rw [Int.toNat_natCast, List.getD_eq_getElem?_getD, List.getElem?_eq_getElem h]; rfl
set_option maxHeartbeats 4000000 in
set_option maxRecDepth 100000 in
theorem check_any (A0 : Option Addr) (c0 : Nat) (l : List S34) (w : World) (hr0 : Kd.C k34 w A0 l.length l) (hc0 : l.length ≤ c0) :
    Calls Tryd.prog 14 #[.slice A0 l.length c0] w fun e w' => e = .returned (.int .i64 (checkQ l)) ∧ Below w.heap.size w w' := by
  obtain ⟨r, hr⟩ : ∃ r, checkQ l = r := ⟨_, rfl⟩
  rw [hr]
  unfold checkQ at hr
  have HR0 := Aside0.mk hr0
  clear hr0
  by_cases hl : l.length > 256
  · rw [if_pos hl] at hr
    subst hr
    have hb : decide ((l.length : Int) > 256) = true := decide_eq_true (by omega)
    have hb2 : decide (256 < (l.length : Int)) = true := decide_eq_true (by omega)
    clear hl
    go_enter Tryd.func14, Tryd.ntmps14
    go_wp2
    go_ret
    exact ⟨rfl, Below.refl _ _⟩
  · rw [if_neg hl] at hr
    have hb : decide ((l.length : Int) > 256) = false := decide_eq_false (by omega)
    have hb2 : decide (256 < (l.length : Int)) = false := decide_eq_false (by omega)
    have HR := Lib.hid hr
    have HL := Lib.hid hl
    clear hl hr
    go_enter Tryd.func14, Tryd.ntmps14
    go_wp2
    clear hb hb2
    go_loopw [3, 11] (fun av iv wr => ChkRel w l r av iv wr) (fun _ iv _ => (l.length - intOf iv).toNat)
    case atStart => exact ⟨0, false, rfl, rfl, by omega, by simpa using HR.out, Below.refl _ _⟩
    case round =>
      clear HR
      obtain ⟨k, ah, rfl, rfl, hk, hj, hbel⟩ := hrel
      have HLK := Lib.hid hk
      by_cases c : (k : Int) < (l.length : Int)
      · have cb : decide ((k : Int) < (l.length : Int)) = true := decide_eq_true c
        have i0 : 0 ≤ (k : Int) := by omega
        have hlt : k < l.length := by omega
        obtain ⟨ad, e, h0, h1, h2⟩ := at_T34 HR0.out (k : Int) i0 c
        cases e
        replace h0 := (hbel.cell (World.block_lt_of_cell? w _ h0)).trans h0
        replace h1 := (hbel.cell (World.block_lt_of_cell? w _ h1)).trans h1
        replace h2 := (hbel.cell (World.block_lt_of_cell? w _ h2)).trans h2
        simp only [Int.toNat_natCast] at h0 h1 h2
        rw [drop_cons l k hlt, checkL, take_snoc l k hlt] at hj
        have hC := Kd.C_take (Kd.C_below HR0.out hbel) hk
        have htl : (l.take k).length = k := by rw [List.length_take]; omega
        generalize l.take k = pre at *
        have hl256 : (k : Int) ≤ 256 := by have := HL.out; omega
        have hcap : (k : Int) ≤ (c0 : Int) := by omega
        have hw : IntKind.i64.wrap ((k : Int) + 1) = (k : Int) + 1 := by rw [i64_w]; exact wrap64_id (by omega) (by omega)
        generalize rd_T34 l (k : Int) = x at *
        have hg := goodQ_f x
        have hm := makesQ_f x
        have HG := Lib.hid hg
        have HM := Lib.hid hm
        have HJ := Lib.hid hj
        have HB := Lib.hid hbel
        have HC := Lib.hid hC
        have HTL := Lib.hid htl
        clear hg hm hj hbel hC htl
        have hT := heap_alloc_new wr (.cells #[.int .i64 x.f0, .string x.f1, .string x.f2] 34)
        change Td _ _ _ _ _ at hT
        have hB1 := HB.out.alloc HB.out.size (.cells #[.int .i64 x.f0, .string x.f1, .string x.f2] 34)
        have hC1 := Kd.C_alloc HC.out (.cells #[.int .i64 x.f0, .string x.f1, .string x.f2] 34)
        go_wp2_with fail
        refine (todo_good.calls 60 _ _ _ _ _ HG.out).mono ?_
        rintro e w2 ⟨rfl, hb2⟩
        have hT2 := hT.below hb2
        have hB2 := hB1.trans (hb2.mono hB1.size)
        have hC2 := Kd.C_below hC1 hb2
        clear hT hB1 hC1 hb2 h0 h1 h2
        obtain ⟨g, hgood⟩ : ∃ g, goodQ x = g := ⟨_, rfl⟩
        have hj := HJ.out
        rw [hgood] at hj ⊢
        cases g with
        | false =>
          rw [if_pos rfl] at hj
          subst hj
          go_wp2
          go_ret
          exact ⟨rfl, hB2⟩
        | true =>
          rw [if_neg (by simp)] at hj
          have t0 := hT2.c0
          have t1 := hT2.c1
          have t2 := hT2.c2
          generalize wr.heap.size = T at *
          obtain ⟨bi, hbi⟩ : ∃ b, (x.f1.toList != ([] : List UInt8)) = b := ⟨_, rfl⟩
          rw [hbi] at hj
          have hbi2 : (x.f1.toList == ([] : List UInt8)) = !bi := by rw [← hbi]; exact (Bool.not_not _).symm
          cases bi with
          | false =>
            rw [if_neg (fun h => by simpa using h.1)] at hj
            have HJ4 := Lib.hid hj
            have HB4 := Lib.hid hB2
            clear hj HJ HC hT2 hB2 hC2 hgood
            cases ah with
            | true =>
              have hj5 := HJ4.out
              rw [if_neg (fun h => by simpa using h.2), Bool.true_or] at hj5
              have HJ5 := Lib.hid hj5
              have HB6 := HB4
              clear hj5
              by_cases e4 : x.f0 = 4
              · have k4 : (x.f0 == 4) = true := beq_iff_eq.mpr e4
                clear e4
                go_wp2
                refine ⟨⟨k + 1, true, rfl, rfl, by omega, HJ5.out, HB6.out⟩, ?_⟩
                simp [intOf]; omega
              · have k4 : (x.f0 == 4) = false := beq_eq_false_iff_ne.mpr e4
                obtain ⟨b5, k5⟩ : ∃ b, (x.f0 == 5) = b := ⟨_, rfl⟩
                clear e4
                cases b5 <;> (
                  go_wp2
                  refine ⟨⟨k + 1, true, rfl, rfl, by omega, HJ5.out, HB6.out⟩, ?_⟩
                  simp [intOf]; omega)
            | false =>
              have hj5 := HJ4.out
              by_cases e4 : x.f0 = 4
              · have k4 : (x.f0 == 4) = true := beq_iff_eq.mpr e4
                rw [if_pos ⟨Or.inl e4, rfl⟩] at hj5
                subst hj5
                clear e4
                go_wp2
                go_ret
                exact ⟨rfl, HB4.out⟩
              · by_cases e5 : x.f0 = 5
                · have k4 : (x.f0 == 4) = false := beq_eq_false_iff_ne.mpr e4
                  have k5 : (x.f0 == 5) = true := beq_iff_eq.mpr e5
                  rw [if_pos ⟨Or.inr e5, rfl⟩] at hj5
                  subst hj5
                  clear e4 e5
                  go_wp2
                  go_ret
                  exact ⟨rfl, HB4.out⟩
                · have k4 : (x.f0 == 4) = false := beq_eq_false_iff_ne.mpr e4
                  have k5 : (x.f0 == 5) = false := beq_eq_false_iff_ne.mpr e5
                  rw [if_neg (fun h => h.1.elim e4 e5), Bool.false_or] at hj5
                  have HJ5 := Lib.hid hj5
                  clear hj5 e4 e5
                  go_wp2_with fail
                  refine (todo_makes.calls _ _ _ _ _ HM.out).mono ?_
                  rintro e w6 ⟨rfl, hb6⟩
                  have HB6 := Lib.hid (HB4.out.trans (hb6.mono HB4.out.size))
                  clear hb6
                  go_wp2
                  refine ⟨⟨k + 1, makesQ x, rfl, rfl, by omega, HJ5.out, HB6.out⟩, ?_⟩
                  simp [intOf]; omega
          | true =>
            have hcon := contains_any 35 #[.pointer (some ⟨T, 0, none⟩)] (sameId x.f1) (some ad) c0 pre w2 (check1_tests T _ _ _ w2 hT2) (by rw [HTL.out]; rw [HTL.out] at hC2; exact hC2) (by rw [HTL.out]; omega)
            rw [HTL.out] at hcon
            obtain ⟨bd, hbd⟩ : ∃ b, decide (0 ≤ idxQ (sameId x.f1) pre 0) = b := ⟨_, rfl⟩
            rw [hbd] at hcon hj
            have HCON := Lib.hid hcon
            have HJ1 := Lib.hid hj
            have HT2 := Lib.hid hT2
            have HB2 := Lib.hid hB2
            clear hcon hj hT2 hB2 hC2 hgood
            go_wp2_with fail
            refine HCON.out.mono ?_
            rintro e w4 ⟨rfl, hb4⟩
            have hT4 := HT2.out.below hb4
            have HB4 := Lib.hid (HB2.out.trans (hb4.mono HB2.out.size))
            clear t0 t1 t2 hb4
            have t0 := hT4.c0
            have t1 := hT4.c1
            have t2 := hT4.c2
            have hj := HJ1.out
            cases bd with
            | true =>
              rw [if_pos (by simp)] at hj
              subst hj
              go_wp2
              go_ret
              exact ⟨rfl, HB4.out⟩
            | false =>
              rw [if_neg (fun h => by simpa using h.2)] at hj
              have HJ4 := Lib.hid hj
              clear hj HJ HJ1 HC hT4
              cases ah with
              | true =>
                have hj5 := HJ4.out
                rw [if_neg (fun h => by simpa using h.2), Bool.true_or] at hj5
                have HJ5 := Lib.hid hj5
                have HB6 := HB4
                clear hj5
                by_cases e4 : x.f0 = 4
                · have k4 : (x.f0 == 4) = true := beq_iff_eq.mpr e4
                  clear e4
                  go_wp2
                  refine ⟨⟨k + 1, true, rfl, rfl, by omega, HJ5.out, HB6.out⟩, ?_⟩
                  simp [intOf]; omega
                · have k4 : (x.f0 == 4) = false := beq_eq_false_iff_ne.mpr e4
                  obtain ⟨b5, k5⟩ : ∃ b, (x.f0 == 5) = b := ⟨_, rfl⟩
                  clear e4
                  cases b5 <;> (
                    go_wp2
                    refine ⟨⟨k + 1, true, rfl, rfl, by omega, HJ5.out, HB6.out⟩, ?_⟩
                    simp [intOf]; omega)
              | false =>
                have hj5 := HJ4.out
                by_cases e4 : x.f0 = 4
                · have k4 : (x.f0 == 4) = true := beq_iff_eq.mpr e4
                  rw [if_pos ⟨Or.inl e4, rfl⟩] at hj5
                  subst hj5
                  clear e4
                  go_wp2
                  go_ret
                  exact ⟨rfl, HB4.out⟩
                · by_cases e5 : x.f0 = 5
                  · have k4 : (x.f0 == 4) = false := beq_eq_false_iff_ne.mpr e4
                    have k5 : (x.f0 == 5) = true := beq_iff_eq.mpr e5
                    rw [if_pos ⟨Or.inr e5, rfl⟩] at hj5
                    subst hj5
                    clear e4 e5
                    go_wp2
                    go_ret
                    exact ⟨rfl, HB4.out⟩
                  · have k4 : (x.f0 == 4) = false := beq_eq_false_iff_ne.mpr e4
                    have k5 : (x.f0 == 5) = false := beq_eq_false_iff_ne.mpr e5
                    rw [if_neg (fun h => h.1.elim e4 e5), Bool.false_or] at hj5
                    have HJ5 := Lib.hid hj5
                    clear hj5 e4 e5
                    go_wp2_with fail
                    refine (todo_makes.calls _ _ _ _ _ HM.out).mono ?_
                    rintro e w6 ⟨rfl, hb6⟩
                    have HB6 := Lib.hid (HB4.out.trans (hb6.mono HB4.out.size))
                    clear hb6
                    go_wp2
                    refine ⟨⟨k + 1, makesQ x, rfl, rfl, by omega, HJ5.out, HB6.out⟩, ?_⟩
                    simp [intOf]; omega
      · have cb : decide ((k : Int) < (l.length : Int)) = false := decide_eq_false c
        have hk2 : k = l.length := by omega
        rw [hk2, List.drop_length, checkL] at hj
        subst hj
        clear c
        go_wp2
        go_ret
        exact ⟨rfl, hbel⟩
def todo_Check.f (l0 : List S34) : Option Int := some (checkQ l0)
theorem todo_Check.calls (A0 : Option Addr) (c0 : Nat) (l0 : List S34) (r : Int) (w : World) (hr0 : Kd.C k34 w A0 l0.length l0) (hc0 : l0.length ≤ c0) (h : todo_Check.f l0 = some r) :
    Calls Tryd.prog 14 #[.slice A0 l0.length c0] w fun e w' => e = .returned (.int .i64 r) ∧ Below w.heap.size w w' := by
  simp only [todo_Check.f, Option.some.injEq] at h
  subst h
  exact check_any A0 c0 l0 w hr0 hc0
end Go.Proofs.YtefnmfcgjlppaaaDoor.Hand
/- In a drawn region: an operation that its guard leaves out, taken first, and one that yields; all side conditions by the kernel, at once. -/
namespace Go.Proofs.YtefnmfcgjlppaaaDoor.Hand
open Go
def leftOut (md : Region.Mode) (ops : Array Oper) (listed : Array Bool) (tmps : Array Value) (i : Nat) (d : Option Tmp) (want : Bool) : Bool :=
  Region.noSelect ops && Region.free md ops listed i && (Region.ready md ops listed).contains i &&
  match ops[i]? with
  | some o => (Region.wanted o (yielded ops tmps) == want) && decide (o.dst = d)
  | none => false
section
variable {P : Program} {ops : Array Oper} {Q : Exit → Act → World → Prop} {md : Region.Mode} {S : World → Prop}
theorem leftOut_all {listed : Array Bool} {tmps : Array Value} {i : Nat} {d : Option Tmp} {want : Bool} (h : leftOut md ops listed tmps i d want = true) :
    ∃ o, ops[i]? = some o ∧ o.dst = d ∧ Region.wanted o (yielded ops tmps) = want ∧ Region.noSelect ops = true ∧ Region.free md ops listed i = true ∧ (Region.ready md ops listed).contains i = true := by
  unfold leftOut at h
  simp only [Bool.and_eq_true] at h
  obtain ⟨⟨⟨h1, h2⟩, h3⟩, h4⟩ := h
  split at h4
  · rename_i o ho
    simp only [Bool.and_eq_true, beq_iff_eq, decide_eq_true_eq] at h4
    exact ⟨o, ho, h4.2, h4.1, h1, h2, h3⟩
  · cases h4
theorem skipD (i : Nat) (d : Option Tmp) {fuel : Nat} {listed : Array Bool} {a : Act} {w : World} (hl : leftOut md ops listed a.tmps i d false = true)
    (hQ : ∀ c a w, Q (.panic c) (a.put d undef) w → Q (.panic c) a w) (hS : S w)
    (h : wpAnyH P md ops Q S fuel (listed.setIfInBounds i true) (a.put d undef) w) : wpAnyH P md ops Q S (fuel + 1) listed a w := by
  obtain ⟨o, ho, rfl, h1, hs, hf, hr⟩ := leftOut_all hl
  exact wpAnyH_take ho hs hf hr hQ (Or.inr ⟨h1, rfl⟩) hS h
theorem yieldD (i : Nat) (d : Option Tmp) (v : Value) {oi : Oper} {fuel : Nat} {listed : Array Bool} {a : Act} {w : World} (hi : ops[i]? = some oi) (hl : leftOut md ops listed a.tmps i d true = true)
    (hQ : ∀ c a w, Q (.panic c) (a.put d v) w → Q (.panic c) a w) (hS : S w) (hy : ∀ w, S w → (execOp a.eval oi).run P w = .ok (.value v) w)
    (h : wpAnyH P md ops Q S fuel (listed.setIfInBounds i true) (a.put d v) w) : wpAnyH P md ops Q S (fuel + 1) listed a w := by
  obtain ⟨o, ho, rfl, h1, hs, hf, hr⟩ := leftOut_all hl
  have e : o = oi := Option.some.inj (ho.symm.trans hi)
  subst e
  exact wpAnyH_take ho hs hf hr hQ (Or.inl ⟨h1, hy⟩) hS h
end
end Go.Proofs.YtefnmfcgjlppaaaDoor.Hand
/- todo.thing, by hand: a closure that cuts a text off. -/
namespace Go.Proofs.YtefnmfcgjlppaaaDoor.Hand
open Go.RowKit Go.Proofs.YtefnmfcgjlppaaaDoorW.PrintWords Go.Proofs.YtefnmfcgjlppaaaDoorW.PrintLast Go.Proofs.YtefnmfcgjlppaaaDoorW.PrintMore
open Go.Proofs.YtefnmfcgjlppaaaDoor.PTd
set_option linter.unusedVariables false
set_option linter.unusedSimpArgs false
def blankI (s : ByteArray) : Int := Lib.indexByte s.data.toList 32
def cutA (s : ByteArray) : ByteArray := if 0 ≤ blankI s then s.extract 0 (blankI s).toNat else s
def cutB (s : ByteArray) : ByteArray := if 0 ≤ blankI s then s.extract (blankI s + 1).toNat s.size else ⟨#[]⟩
def cutH (s : ByteArray) : Bool := decide (0 ≤ blankI s)
theorem blankI_lt (s : ByteArray) : blankI s < s.size ∧ -1 ≤ blankI s := by
  unfold blankI
  have key : ∀ l : List UInt8, Lib.indexByte l 32 < l.length ∧ -1 ≤ Lib.indexByte l 32 := by
    intro l
    induction l with
    | nil => simp [Lib.indexByte]
    | cons x l ih =>
      simp only [Lib.indexByte, List.length_cons]
      split <;> (try split) <;> omega
  have := key s.data.toList
  rw [Array.length_toList] at this
  exact this
set_option maxHeartbeats 1000000 in
set_option maxRecDepth 100000 in
theorem slCut_any (s : ByteArray) (w : World) (hz : s.size ≤ 9223372036854775806) :
    Calls Tryd.prog 58 #[.string s, .string ⟨#[32]⟩] w fun e w' => e = .returned (.tuple #[.string (cutA s), .string (cutB s), .bool (cutH s)]) ∧ Drawn0 w w' := by
  obtain ⟨hlt, hge⟩ := blankI_lt s
  have hc : ∀ w, Calls Tryd.prog 56 #[.string s, .string ⟨#[32]⟩] w fun e w' => e = .returned (.int .i64 (blankI s)) ∧ w' = w := fun w => Tryd.stringslite_Index_one s 32 w
  unfold cutA cutB cutH
  generalize blankI s = i at *
  have hz1 : ((⟨#[32]⟩ : ByteArray).size : Int) = 1 := rfl
  have HC := Lib.hid hc
  clear hc
  by_cases h : 0 ≤ i
  · have h0 : (i ≥ 0) = True := eq_true h
    have hb : decide (0 ≤ i) = true := decide_eq_true h
    have hw : IntKind.i64.wrap (i + 1) = i + 1 := by rw [i64_w]; exact wrap64_id (by omega) (by omega)
    go_enter Tryd.func58, Tryd.ntmps58
    go_wp2_with (go_at_call 56; refine (HC.out _).mono ?_; rintro e w1 ⟨rfl, rfl⟩)
    go_quiet (fail)
    go_wp2
    go_ret3
    exact ⟨by simp [h], ⟨_, rfl⟩⟩
  · have h0 : (i ≥ 0) = False := eq_false h
    have hb : decide (0 ≤ i) = false := decide_eq_false h
    go_enter Tryd.func58, Tryd.ntmps58
    go_wp2_with (go_at_call 56; refine (HC.out _).mono ?_; rintro e w1 ⟨rfl, rfl⟩)
    go_ret3
    exact ⟨by simp [h], .refl _⟩
set_option maxHeartbeats 1000000 in
set_option maxRecDepth 100000 in
theorem Cut_any (s : ByteArray) (w : World) (hz : s.size ≤ 9223372036854775806) :
    Calls Tryd.prog 44 #[.string s, .string ⟨#[32]⟩] w fun e w' => e = .returned (.tuple #[.string (cutA s), .string (cutB s), .bool (cutH s)]) ∧ Drawn0 w w' := by
  have hc := slCut_any s w hz
  generalize cutA s = x at *
  generalize cutB s = y at *
  generalize cutH s = z at *
  have HC := Lib.hid hc
  clear hc
  go_enter Tryd.func44, Tryd.ntmps44
  go_wp2_with (go_at_call 58; refine HC.out.mono ?_; rintro e w1 ⟨rfl, hD⟩)
  go_ret3
  exact ⟨rfl, hD⟩
set_option maxHeartbeats 1000000 in
set_option maxRecDepth 100000 in
/-- The closure: it cuts the text in block g. -/
theorem cut1_any (g : Nat) (s : ByteArray) (w : World) (hg : w.heap[g]? = some (.cells #[.string s] 9 (0, 0))) (hz : s.size ≤ 9223372036854775806) :
    Calls Tryd.prog 43 (#[] ++ #[.pointer (some ⟨g, 0, none⟩)]) w fun e w' => e = .returned (.tuple #[.string (cutA s), .bool (cutH s)]) ∧ w'.heap[g]? = some (.cells #[.string (cutB s)] 9 (0, 0)) ∧ Kept w w' (fun b => b = g) ∧ Below g w w' := by
  have hc := fun w => Cut_any s w hz
  generalize cutA s = x at *
  generalize cutB s = y at *
  generalize cutH s = z at *
  have c0 := cell_of_one hg
  have f0 := free_of_one hg
  have HC := Lib.hid hc
  have HG := Lib.hid hg
  clear hc hg
  go_enter Tryd.func43, Tryd.ntmps43
  go_wp2_with (go_at_call 44; refine (HC.out _).mono ?_; rintro e w1 ⟨rfl, ⟨⟨n, rfl⟩⟩⟩)
  go_ret2
  refine ⟨rfl, one_setCell (by exact HG.out), ((Kept.refl w (fun b => b = g)).drewN n).setCell (Or.inl rfl) _, (pw_below_drewN (Below.refl g w) n).setCell (Nat.le_refl _) _⟩
/-- What todo.thing answers. -/
def thingQ (s : ByteArray) : (Int × ByteArray × ByteArray) × Bool :=
  if kindQ (cutA s) = 0 ∨ kindQ (cutA s) = 7 then ((kindQ (cutA s), ⟨#[]⟩, ⟨#[]⟩), kindQ (cutA s) != 0 && !cutH s)
  else ((kindQ (cutA s), cutA (cutB s), cutB (cutB s)), cutH s && isQ (cutA (cutB s)) && (cutH (cutB s) == ((cutB (cutB s)).toList != [])) && decide ((cutB (cutB s)).size ≤ 4096))
theorem cutB_size (s : ByteArray) : (cutB s).size ≤ s.size := by
  unfold cutB
  split
  · rw [ByteArray.size_extract]; omega
  · exact Nat.zero_le _
theorem Td.drew {w : World} {g : Nat} {a : Int} {b c : ByteArray} (h : Td w g a b c) : Td w.drew g a b c := h
theorem Td.set3 {w : World} {g : Nat} {a a' : Int} {b c b' c' : ByteArray} (h : Td w g a b c) : Td (((w.setCell ⟨g, 0, none⟩ (.int .i64 a')).setCell ⟨g, 1, none⟩ (.string b')).setCell ⟨g, 2, none⟩ (.string c')) g a' b' c' := by
  unfold Td at *
  have := blk_set (blk_set (blk_set h 0 (.int .i64 a')) 1 (.string b')) 2 (.string c')
  simpa using this
theorem Td.res {w : World} {g : Nat} {a : Int} {b c : ByteArray} (h : Td w g a b c) {fn : Func} {p u : Tmp} (hf : fn.results = #[.cell p 34, .tmp u]) (tmps : Array Value) (hp : tmps.getD p undef = .pointer (some ⟨g, 0, none⟩)) :
    (results fn tmps).run Tryd.prog w = .ok (.tuple #[.agg #[.int .i64 a, .string b, .string c], tmps.getD u undef]) w :=
  results_ct hf tmps w g 34 _ (0, 0) _ hp h Tryd.underlying34 rfl (by kernel_rfl)
set_option maxHeartbeats 4000000 in
set_option maxRecDepth 100000 in
theorem thing_any (s : ByteArray) (w : World) (hW : Wds w) (hz : s.size ≤ 9223372036854775806) :
    Calls Tryd.prog 23 #[.string s] w fun e w' => e = .returned (.tuple #[.agg #[.int .i64 (thingQ s).1.1, .string (thingQ s).1.2.1, .string (thingQ s).1.2.2], .bool (thingQ s).2]) ∧ Below w.heap.size w w' := by
  have hz2 : (cutB s).size ≤ 9223372036854775806 := by have := cutB_size s; omega
  have h1 := fun g w hg => cut1_any g s w hg hz
  have h2 := fun g w hg => cut1_any g (cutB s) w hg hz2
  obtain ⟨Q, hQ⟩ : ∃ Q, thingQ s = Q := ⟨_, rfl⟩
  rw [hQ]
  have hk := fun w hW => kind_any (cutA s) w hW
  have hq := fun w => Is_same (cutA (cutB s)) w
  unfold thingQ at hQ
  generalize cutH (cutB s) = has at *
  generalize cutA (cutB s) = id at *
  generalize cutB (cutB s) = tx at *
  generalize cutB s = rest at *
  generalize kindQ (cutA s) = kd at *
  generalize cutH s = more at *
  generalize isQ id = isid at *
  generalize cutA s = word at *
  have H1 := Lib.hid h1
  have H2 := Lib.hid h2
  have HK := Lib.hid hk
  have HQ := Lib.hid hQ
  have HI := Lib.hid hq
  have HW := Lib.hid hW
  clear h1 h2 hk hQ hq hz hz2 hW
  have hB0 : Below w.heap.size w ((w.alloc (.cells #[.string s] 9)).alloc (.cells #[.int .i64 0, .string ⟨#[]⟩, .string ⟨#[]⟩] 34)) := ((Below.refl _ _).alloc (Nat.le_refl _) _).alloc (by simp) _
  have hS0 : ((w.alloc (.cells #[.string s] 9)).alloc (.cells #[.int .i64 0, .string ⟨#[]⟩, .string ⟨#[]⟩] 34)).heap[w.heap.size]? = some (.cells #[.string s] 9 (0, 0)) := (Below.heap_alloc _ _ _ (by simp)).trans (heap_alloc_new w _)
  have hR0 : Td ((w.alloc (.cells #[.string s] 9)).alloc (.cells #[.int .i64 0, .string ⟨#[]⟩, .string ⟨#[]⟩] 34)) (w.heap.size + 1) 0 ⟨#[]⟩ ⟨#[]⟩ := by
    unfold Td
    have := heap_alloc_new (w.alloc (.cells #[.string s] 9)) (.cells #[.int .i64 0, .string ⟨#[]⟩, .string ⟨#[]⟩] 34)
    simpa using this
  go_enter Tryd.func23, Tryd.ntmps23
  go_wp2_with (go_at_call 43; refine (H1.out w.heap.size _ hS0).mono ?_; rintro e w1 ⟨rfl, hs1, hk1, hb1⟩)
  have hB1 := hB0.trans (hb1.mono (Nat.le_refl _))
  have hR1 : Td w1 (w.heap.size + 1) 0 ⟨#[]⟩ ⟨#[]⟩ := (hk1.2 (w.heap.size + 1) (lt_of_block hR0) (by omega)).trans hR0
  clear hS0 hR0 hB0 hk1 hb1
  by_cases h0 : kd = 0
  · subst h0
    go_wp2_with (go_at_call 45; refine (HK.out _ (HW.out.below hB1)).mono ?_; rintro e w2 ⟨rfl, ⟨⟨n2, rfl⟩⟩⟩; have hs2 : (w1.drewN n2).heap[w.heap.size]? = some (.cells #[.string rest] 9 (0, 0)) := hs1; have hR2 : Td (w1.drewN n2) (w.heap.size + 1) 0 ⟨#[]⟩ ⟨#[]⟩ := hR1; have hB2 : Below w.heap.size w (w1.drewN n2) := pw_below_drewN hB1 n2; generalize w1.drewN n2 = w2 at *; clear hs1 hR1 hB1; have r0 := hR2.c0; have r1 := hR2.c1; have r2 := hR2.c2; have f0 := hR2.fr 0; have f1 := hR2.fr 1; have f2 := hR2.fr 2; have lR := hR2.lt; have lS : w.heap.size < w2.heap.size := by omega)
    refine bodyPost_ret ((Td.set3 hR2 (a' := 0) (b' := ⟨#[]⟩) (c' := ⟨#[]⟩)).alloc _ |>.res rfl _ rfl) rfl ?_
    refine ⟨?_, (((hB2.setCell (by simp) _).setCell (by simp) _).setCell (by simp) _).alloc (by simp; omega) _⟩
    rw [← HQ.out]
    rfl
  · by_cases h7 : kd = 7
    · subst h7
      cases more <;> (
        go_wp2_with (go_at_call 45; refine (HK.out _ (HW.out.below hB1)).mono ?_; rintro e w2 ⟨rfl, ⟨⟨n2, rfl⟩⟩⟩; have hs2 : (w1.drewN n2).heap[w.heap.size]? = some (.cells #[.string rest] 9 (0, 0)) := hs1; have hR2 : Td (w1.drewN n2) (w.heap.size + 1) 0 ⟨#[]⟩ ⟨#[]⟩ := hR1; have hB2 : Below w.heap.size w (w1.drewN n2) := pw_below_drewN hB1 n2; generalize w1.drewN n2 = w2 at *; clear hs1 hR1 hB1; have r0 := hR2.c0; have r1 := hR2.c1; have r2 := hR2.c2; have f0 := hR2.fr 0; have f1 := hR2.fr 1; have f2 := hR2.fr 2; have lR := hR2.lt; have lS : w.heap.size < w2.heap.size := by omega)
        refine bodyPost_ret ((Td.set3 hR2 (a' := 7) (b' := ⟨#[]⟩) (c' := ⟨#[]⟩)).alloc _ |>.res rfl _ rfl) rfl ?_
        refine ⟨?_, (((hB2.setCell (by simp) _).setCell (by simp) _).setCell (by simp) _).alloc (by simp; omega) _⟩
        rw [← HQ.out]
        rfl)
    · have b0 : (kd == 0) = false := by simpa using h0
      have b7 : (kd == 7) = false := by simpa using h7
      have hQ2 := HQ.out
      rw [if_neg (fun h => h.elim h0 h7)] at hQ2
      have HQ2 := Lib.hid hQ2
      clear hQ2 HQ h0 h7
      go_wp2_with (go_at_call 45; refine (HK.out _ (HW.out.below hB1)).mono ?_; rintro e w2 ⟨rfl, ⟨⟨n2, rfl⟩⟩⟩; have hs2 : (w1.drewN n2).heap[w.heap.size]? = some (.cells #[.string rest] 9 (0, 0)) := hs1; have hR2 : Td (w1.drewN n2) (w.heap.size + 1) 0 ⟨#[]⟩ ⟨#[]⟩ := hR1; have hB2 : Below w.heap.size w (w1.drewN n2) := pw_below_drewN hB1 n2; generalize w1.drewN n2 = w2 at *; clear hs1 hR1 hB1; have r0 := hR2.c0; have r1 := hR2.c1; have r2 := hR2.c2; have f0 := hR2.fr 0; have f1 := hR2.fr 1; have f2 := hR2.fr 2; have lR := hR2.lt; have lS : w.heap.size < w2.heap.size := by omega)
      have hT2 : Td (w2.alloc (.cells #[.int .i64 kd, .string ⟨#[]⟩, .string ⟨#[]⟩] 34)) w2.heap.size kd ⟨#[]⟩ ⟨#[]⟩ := heap_alloc_new w2 _
      have hR3 := hR2.alloc (.cells #[.int .i64 kd, .string ⟨#[]⟩, .string ⟨#[]⟩] 34)
      have hs3 := blk_alloc hs2 (.cells #[.int .i64 kd, .string ⟨#[]⟩, .string ⟨#[]⟩] 34)
      have hB3 := hB2.alloc (by omega) (.cells #[.int .i64 kd, .string ⟨#[]⟩, .string ⟨#[]⟩] 34)
      have lT : w.heap.size + 1 < w2.heap.size := lR
      clear hR2 hs2 hB2 r0 r1 r2 f0 f1 f2 lR lS
      generalize w2.alloc (.cells #[.int .i64 kd, .string ⟨#[]⟩, .string ⟨#[]⟩] 34) = w3 at *
      generalize w2.heap.size = T at *
      refine (H2.out w.heap.size _ hs3).mono ?_
      rintro e w4 ⟨rfl, hs4, hk4, hb4⟩
      have hT4 : Td w4 T kd ⟨#[]⟩ ⟨#[]⟩ := (hk4.2 T hT2.lt (by omega)).trans hT2
      have hR4 : Td w4 (w.heap.size + 1) 0 ⟨#[]⟩ ⟨#[]⟩ := (hk4.2 _ hR3.lt (by omega)).trans hR3
      have hB4 := hB3.trans (hb4.mono (Nat.le_refl _))
      clear hT2 hR3 hs3 hB3 hk4 hb4
      have cs := cell_of_one hs4
      have t0 := hT4.c0
      have t1 := hT4.c1
      have t2 := hT4.c2
      have g1 := hT4.fr 1
      have g2 := hT4.fr 2
      have lS : w.heap.size ≠ T := by omega
      have lS2 : T ≠ w.heap.size := by omega
      go_wp2
      go_region
      have hT5 : Td ((w4.setCell ⟨T, 1, none⟩ (.string id)).setCell ⟨T, 2, none⟩ (.string tx)).drew T kd id tx := by
        have := blk_set (blk_set hT4 1 (.string id)) 2 (.string tx)
        unfold Td
        exact this.trans (by simp)
      have hR5 : Td ((w4.setCell ⟨T, 1, none⟩ (.string id)).setCell ⟨T, 2, none⟩ (.string tx)).drew (w.heap.size + 1) 0 ⟨#[]⟩ ⟨#[]⟩ := blk_far (blk_far hR4 (by show w.heap.size + 1 ≠ T; omega) _) (by show w.heap.size + 1 ≠ T; omega) _
      have hB5 := ((hB4.setCell (p := ⟨T, 1, none⟩) (by show w.heap.size ≤ T; omega) (.string id)).setCell (p := ⟨T, 2, none⟩) (by show w.heap.size ≤ T; omega) (.string tx)).drew
      clear hT4 hR4 hB4 hs4 cs t0 t1 t2 g1 g2
      generalize ((w4.setCell ⟨T, 1, none⟩ (.string id)).setCell ⟨T, 2, none⟩ (.string tx)).drew = w5 at *
      have t0 := hT5.c0
      have t1 := hT5.c1
      have t2 := hT5.c2
      have r0 := hR5.c0
      have r1 := hR5.c1
      have r2 := hR5.c2
      have f0 := hR5.fr 0
      have f1 := hR5.fr 1
      have f2 := hR5.fr 2
      have lR : T ≠ w.heap.size + 1 := by omega
      have lR2 : w.heap.size + 1 ≠ T := by omega
      have HT5 := Lib.hid hT5
      have HR5 := Lib.hid hR5
      have HB5 := Lib.hid hB5
      clear hT5 hR5 hB5
      cases more with
      | false =>
        go_wp2
        go_region
        all_goals (
          go_wp2
          refine bodyPost_ret ((Td.set3 HR5.out (a' := kd) (b' := id) (c' := tx)).drew.res rfl _ rfl) rfl ?_
          refine ⟨?_, (((HB5.out.setCell (by simp) _).setCell (by simp) _).setCell (by simp) _).drew⟩
          rw [← HQ2.out]
          rfl)
      | true =>
        cases isid with
        | false =>
          go_wp2
          refine wp_region_held_drew (S := (fun w' => w'.cell? ⟨T, 0, none⟩ = some (.int .i64 kd) ∧ w'.cell? ⟨T, 1, none⟩ = some (.string id) ∧ w'.cell? ⟨T, 2, none⟩ = some (.string tx))) (by kernel_rfl) (by exact ⟨t0, t1, t2⟩) (fun hHeld => ?_)
          refine yieldD 0 (some 44) ?v6_0 rfl (by kernel_rfl) (fun _ _ _ h => h) (by assumption) ?h6_0 ?r6_0
          case h6_0 => (intro w h; (try dsimp only at h); go_simp; (try with_reducible rfl))
          try simp only [Act.put, List.setIfInBounds_toArray, List.set_cons_zero, List.set_cons_succ]
          refine yieldD 1 (some 45) ?v6_1 rfl (by kernel_rfl) (fun _ _ _ h => h) (by assumption) ?h6_1 ?r6_1
          case h6_1 => (intro w h; (try dsimp only at h); go_simp; (try with_reducible rfl))
          try simp only [Act.put, List.setIfInBounds_toArray, List.set_cons_zero, List.set_cons_succ]
          refine yieldD 2 (some 46) ?v6_2 rfl (by kernel_rfl) (fun _ _ _ h => h) (by assumption) ?h6_2 ?r6_2
          case h6_2 => (intro w h; (try dsimp only at h); go_simp; (try with_reducible rfl))
          try simp only [Act.put, List.setIfInBounds_toArray, List.set_cons_zero, List.set_cons_succ]
          refine yieldD 3 (some 47) ?v6_3 rfl (by kernel_rfl) (fun _ _ _ h => h) (by assumption) ?h6_3 ?r6_3
          case h6_3 => (intro w h; (try dsimp only at h); go_simp; (try with_reducible rfl))
          try simp only [Act.put, List.setIfInBounds_toArray, List.set_cons_zero, List.set_cons_succ]
          refine wpAnyH_ready (rs := [4]) (by kernel_rfl) (by simp) ?_
          refine AllReadyH.cons rfl (fun K hK => ?_) AllReadyH.nil
          (go_simp; go_at_call 46; refine (HI.out _).mono ?_; rintro e w6 ⟨rfl, rfl⟩)
          refine hK.out _ _ ?_ (fun hHeld => ?_)
          · exact ⟨t0, t1, t2⟩
          clear hK K
          refine yieldD 5 (some 49) ?v6_5 rfl (by kernel_rfl) (fun _ _ _ h => h) (by assumption) ?h6_5 ?r6_5
          case h6_5 => (intro w h; (try dsimp only at h); go_simp; (try with_reducible rfl))
          try simp only [Act.put, List.setIfInBounds_toArray, List.set_cons_zero, List.set_cons_succ]
          refine yieldD 6 (some 50) ?v6_6 rfl (by kernel_rfl) (fun _ _ _ h => h) (by assumption) ?h6_6 ?r6_6
          case h6_6 => (intro w h; (try dsimp only at h); go_simp; (try with_reducible rfl))
          try simp only [Act.put, List.setIfInBounds_toArray, List.set_cons_zero, List.set_cons_succ]
          refine skipD 7 (some 51) (by kernel_rfl) (fun _ _ _ h => h) (by assumption) ?_
          refine skipD 8 (some 52) (by kernel_rfl) (fun _ _ _ h => h) (by assumption) ?_
          refine skipD 9 (some 53) (by kernel_rfl) (fun _ _ _ h => h) (by assumption) ?_
          refine skipD 10 (some 54) (by kernel_rfl) (fun _ _ _ h => h) (by assumption) ?_
          refine skipD 11 (some 55) (by kernel_rfl) (fun _ _ _ h => h) (by assumption) ?_
          try simp only [Act.put, List.setIfInBounds_toArray, List.set_cons_zero, List.set_cons_succ]
          refine yieldD 12 (some 56) ?v6_12 rfl (by kernel_rfl) (fun _ _ _ h => h) (by assumption) ?h6_12 ?r6_12
          case h6_12 => (intro w h; (try dsimp only at h); go_simp; (try with_reducible rfl))
          try simp only [Act.put, List.setIfInBounds_toArray, List.set_cons_zero, List.set_cons_succ]
          refine yieldD 13 (some 57) ?v6_13 rfl (by kernel_rfl) (fun _ _ _ h => h) (by assumption) ?h6_13 ?r6_13
          case h6_13 => (intro w h; (try dsimp only at h); go_simp; (try with_reducible rfl))
          try simp only [Act.put, List.setIfInBounds_toArray, List.set_cons_zero, List.set_cons_succ]
          refine skipD 14 (some 58) (by kernel_rfl) (fun _ _ _ h => h) (by assumption) ?_
          refine skipD 15 (some 59) (by kernel_rfl) (fun _ _ _ h => h) (by assumption) ?_
          refine skipD 16 (some 60) (by kernel_rfl) (fun _ _ _ h => h) (by assumption) ?_
          refine skipD 17 (some 61) (by kernel_rfl) (fun _ _ _ h => h) (by assumption) ?_
          try simp only [Act.put, List.setIfInBounds_toArray, List.set_cons_zero, List.set_cons_succ]
          refine yieldD 18 (some 62) ?v6_18 rfl (by kernel_rfl) (fun _ _ _ h => h) (by assumption) ?h6_18 ?r6_18
          case h6_18 => (intro w h; (try dsimp only at h); go_simp; (try with_reducible rfl))
          try simp only [Act.put, List.setIfInBounds_toArray, List.set_cons_zero, List.set_cons_succ]
          refine wpAnyH_ready (rs := [19]) (by kernel_rfl) (by simp) ?_
          refine AllReadyH.cons rfl (fun K hK => ?_) AllReadyH.nil
          go_simp
          refine hK.out _ _ ?_ (fun hHeld => ?_)
          · go_keep
          clear hK K
          refine yieldD 20 (some 3) ?v6_20 rfl (by kernel_rfl) (fun _ _ _ h => h) (by assumption) ?h6_20 ?r6_20
          case h6_20 => (intro w h; (try dsimp only at h); go_simp; (try with_reducible rfl))
          try simp only [Act.put, List.setIfInBounds_toArray, List.set_cons_zero, List.set_cons_succ]
          refine wpAnyH_done (by kernel_rfl) ?_ _
          all_goals (
            go_wp2
            refine bodyPost_ret ((Td.set3 HR5.out (a' := kd) (b' := id) (c' := tx)).drew.res rfl _ rfl) rfl ?_
            refine ⟨?_, (((HB5.out.setCell (by simp) _).setCell (by simp) _).setCell (by simp) _).drew⟩
            rw [← HQ2.out]
            rfl)
        | true =>
          obtain ⟨bt, hbt⟩ : ∃ b, (tx.toList != ([] : List UInt8)) = b := ⟨_, rfl⟩
          obtain ⟨bz, hbz⟩ : ∃ b, decide ((tx.size : Int) ≤ 4096) = b := ⟨_, rfl⟩
          have hbz2 : decide (tx.size ≤ 4096) = bz := by rw [← hbz]; congr 1; exact propext (by omega)
          rw [hbt, hbz2] at HQ2
          clear hbz2
          have hbt2 : (tx.toList == ([] : List UInt8)) = !bt := by rw [← hbt]; exact (Bool.not_not _).symm
          cases has <;> cases bt
          · go_wp2
            first
              | go_region_held_law (fun w' => w'.cell? ⟨T, 0, none⟩ = some (.int .i64 kd) ∧ w'.cell? ⟨T, 1, none⟩ = some (.string id) ∧ w'.cell? ⟨T, 2, none⟩ = some (.string tx)) (first | go_keep | exact ⟨t0, t1, t2⟩)
                  (first | (go_simp; go_at_call 46; refine (HI.out _).mono ?_; rintro e w6 ⟨rfl, rfl⟩))
              | fail
            all_goals (
              go_wp2
              refine bodyPost_ret ((Td.set3 HR5.out (a' := kd) (b' := id) (c' := tx)).drew.res rfl _ rfl) rfl ?_
              refine ⟨?_, (((HB5.out.setCell (by simp) _).setCell (by simp) _).setCell (by simp) _).drew⟩
              rw [← HQ2.out]
              first | rfl | simp [*])
          · go_wp2
            refine wp_region_held_drew (S := (fun w' => w'.cell? ⟨T, 0, none⟩ = some (.int .i64 kd) ∧ w'.cell? ⟨T, 1, none⟩ = some (.string id) ∧ w'.cell? ⟨T, 2, none⟩ = some (.string tx))) (by kernel_rfl) (by exact ⟨t0, t1, t2⟩) (fun hHeld => ?_)
            refine yieldD 0 (some 44) ?v7_0 rfl (by kernel_rfl) (fun _ _ _ h => h) (by assumption) ?h7_0 ?r7_0
            case h7_0 => (intro w h; (try dsimp only at h); go_simp; (try with_reducible rfl))
            try simp only [Act.put, List.setIfInBounds_toArray, List.set_cons_zero, List.set_cons_succ]
            refine yieldD 1 (some 45) ?v7_1 rfl (by kernel_rfl) (fun _ _ _ h => h) (by assumption) ?h7_1 ?r7_1
            case h7_1 => (intro w h; (try dsimp only at h); go_simp; (try with_reducible rfl))
            try simp only [Act.put, List.setIfInBounds_toArray, List.set_cons_zero, List.set_cons_succ]
            refine yieldD 2 (some 46) ?v7_2 rfl (by kernel_rfl) (fun _ _ _ h => h) (by assumption) ?h7_2 ?r7_2
            case h7_2 => (intro w h; (try dsimp only at h); go_simp; (try with_reducible rfl))
            try simp only [Act.put, List.setIfInBounds_toArray, List.set_cons_zero, List.set_cons_succ]
            refine yieldD 3 (some 47) ?v7_3 rfl (by kernel_rfl) (fun _ _ _ h => h) (by assumption) ?h7_3 ?r7_3
            case h7_3 => (intro w h; (try dsimp only at h); go_simp; (try with_reducible rfl))
            try simp only [Act.put, List.setIfInBounds_toArray, List.set_cons_zero, List.set_cons_succ]
            refine wpAnyH_ready (rs := [4]) (by kernel_rfl) (by simp) ?_
            refine AllReadyH.cons rfl (fun K hK => ?_) AllReadyH.nil
            (go_simp; go_at_call 46; refine (HI.out _).mono ?_; rintro e w6 ⟨rfl, rfl⟩)
            refine hK.out _ _ ?_ (fun hHeld => ?_)
            · exact ⟨t0, t1, t2⟩
            clear hK K
            refine yieldD 5 (some 49) ?v7_5 rfl (by kernel_rfl) (fun _ _ _ h => h) (by assumption) ?h7_5 ?r7_5
            case h7_5 => (intro w h; (try dsimp only at h); go_simp; (try with_reducible rfl))
            try simp only [Act.put, List.setIfInBounds_toArray, List.set_cons_zero, List.set_cons_succ]
            refine yieldD 6 (some 50) ?v7_6 rfl (by kernel_rfl) (fun _ _ _ h => h) (by assumption) ?h7_6 ?r7_6
            case h7_6 => (intro w h; (try dsimp only at h); go_simp; (try with_reducible rfl))
            try simp only [Act.put, List.setIfInBounds_toArray, List.set_cons_zero, List.set_cons_succ]
            refine yieldD 7 (some 51) ?v7_7 rfl (by kernel_rfl) (fun _ _ _ h => h) (by assumption) ?h7_7 ?r7_7
            case h7_7 => (intro w h; (try dsimp only at h); go_simp; (try with_reducible rfl))
            try simp only [Act.put, List.setIfInBounds_toArray, List.set_cons_zero, List.set_cons_succ]
            refine yieldD 8 (some 52) ?v7_8 rfl (by kernel_rfl) (fun _ _ _ h => h) (by assumption) ?h7_8 ?r7_8
            case h7_8 => (intro w h; (try dsimp only at h); go_simp; (try with_reducible rfl))
            try simp only [Act.put, List.setIfInBounds_toArray, List.set_cons_zero, List.set_cons_succ]
            refine yieldD 9 (some 53) ?v7_9 rfl (by kernel_rfl) (fun _ _ _ h => h) (by assumption) ?h7_9 ?r7_9
            case h7_9 => (intro w h; (try dsimp only at h); go_simp; (try with_reducible rfl))
            try simp only [Act.put, List.setIfInBounds_toArray, List.set_cons_zero, List.set_cons_succ]
            refine yieldD 10 (some 54) ?v7_10 rfl (by kernel_rfl) (fun _ _ _ h => h) (by assumption) ?h7_10 ?r7_10
            case h7_10 => (intro w h; (try dsimp only at h); go_simp; (try with_reducible rfl))
            try simp only [Act.put, List.setIfInBounds_toArray, List.set_cons_zero, List.set_cons_succ]
            refine yieldD 11 (some 55) ?v7_11 rfl (by kernel_rfl) (fun _ _ _ h => h) (by assumption) ?h7_11 ?r7_11
            case h7_11 => (intro w h; (try dsimp only at h); go_simp; (try with_reducible rfl))
            try simp only [Act.put, List.setIfInBounds_toArray, List.set_cons_zero, List.set_cons_succ]
            refine yieldD 12 (some 56) ?v7_12 rfl (by kernel_rfl) (fun _ _ _ h => h) (by assumption) ?h7_12 ?r7_12
            case h7_12 => (intro w h; (try dsimp only at h); go_simp; (try with_reducible rfl))
            try simp only [Act.put, List.setIfInBounds_toArray, List.set_cons_zero, List.set_cons_succ]
            refine yieldD 13 (some 57) ?v7_13 rfl (by kernel_rfl) (fun _ _ _ h => h) (by assumption) ?h7_13 ?r7_13
            case h7_13 => (intro w h; (try dsimp only at h); go_simp; (try with_reducible rfl))
            try simp only [Act.put, List.setIfInBounds_toArray, List.set_cons_zero, List.set_cons_succ]
            refine skipD 14 (some 58) (by kernel_rfl) (fun _ _ _ h => h) (by assumption) ?_
            refine skipD 15 (some 59) (by kernel_rfl) (fun _ _ _ h => h) (by assumption) ?_
            refine skipD 16 (some 60) (by kernel_rfl) (fun _ _ _ h => h) (by assumption) ?_
            refine skipD 17 (some 61) (by kernel_rfl) (fun _ _ _ h => h) (by assumption) ?_
            try simp only [Act.put, List.setIfInBounds_toArray, List.set_cons_zero, List.set_cons_succ]
            refine yieldD 18 (some 62) ?v7_18 rfl (by kernel_rfl) (fun _ _ _ h => h) (by assumption) ?h7_18 ?r7_18
            case h7_18 => (intro w h; (try dsimp only at h); go_simp; (try with_reducible rfl))
            try simp only [Act.put, List.setIfInBounds_toArray, List.set_cons_zero, List.set_cons_succ]
            refine wpAnyH_ready (rs := [19]) (by kernel_rfl) (by simp) ?_
            refine AllReadyH.cons rfl (fun K hK => ?_) AllReadyH.nil
            go_simp
            refine hK.out _ _ ?_ (fun hHeld => ?_)
            · go_keep
            clear hK K
            refine yieldD 20 (some 3) ?v7_20 rfl (by kernel_rfl) (fun _ _ _ h => h) (by assumption) ?h7_20 ?r7_20
            case h7_20 => (intro w h; (try dsimp only at h); go_simp; (try with_reducible rfl))
            try simp only [Act.put, List.setIfInBounds_toArray, List.set_cons_zero, List.set_cons_succ]
            refine wpAnyH_done (by kernel_rfl) ?_ _
            all_goals (
              go_wp2
              refine bodyPost_ret ((Td.set3 HR5.out (a' := kd) (b' := id) (c' := tx)).drew.res rfl _ rfl) rfl ?_
              refine ⟨?_, (((HB5.out.setCell (by simp) _).setCell (by simp) _).setCell (by simp) _).drew⟩
              rw [← HQ2.out]
              first | rfl | simp [*])
          · go_wp2
            refine wp_region_held_drew (S := (fun w' => w'.cell? ⟨T, 0, none⟩ = some (.int .i64 kd) ∧ w'.cell? ⟨T, 1, none⟩ = some (.string id) ∧ w'.cell? ⟨T, 2, none⟩ = some (.string tx))) (by kernel_rfl) (by exact ⟨t0, t1, t2⟩) (fun hHeld => ?_)
            refine yieldD 0 (some 44) ?v8_0 rfl (by kernel_rfl) (fun _ _ _ h => h) (by assumption) ?h8_0 ?r8_0
            case h8_0 => (intro w h; (try dsimp only at h); go_simp; (try with_reducible rfl))
            try simp only [Act.put, List.setIfInBounds_toArray, List.set_cons_zero, List.set_cons_succ]
            refine yieldD 1 (some 45) ?v8_1 rfl (by kernel_rfl) (fun _ _ _ h => h) (by assumption) ?h8_1 ?r8_1
            case h8_1 => (intro w h; (try dsimp only at h); go_simp; (try with_reducible rfl))
            try simp only [Act.put, List.setIfInBounds_toArray, List.set_cons_zero, List.set_cons_succ]
            refine yieldD 2 (some 46) ?v8_2 rfl (by kernel_rfl) (fun _ _ _ h => h) (by assumption) ?h8_2 ?r8_2
            case h8_2 => (intro w h; (try dsimp only at h); go_simp; (try with_reducible rfl))
            try simp only [Act.put, List.setIfInBounds_toArray, List.set_cons_zero, List.set_cons_succ]
            refine yieldD 3 (some 47) ?v8_3 rfl (by kernel_rfl) (fun _ _ _ h => h) (by assumption) ?h8_3 ?r8_3
            case h8_3 => (intro w h; (try dsimp only at h); go_simp; (try with_reducible rfl))
            try simp only [Act.put, List.setIfInBounds_toArray, List.set_cons_zero, List.set_cons_succ]
            refine wpAnyH_ready (rs := [4]) (by kernel_rfl) (by simp) ?_
            refine AllReadyH.cons rfl (fun K hK => ?_) AllReadyH.nil
            (go_simp; go_at_call 46; refine (HI.out _).mono ?_; rintro e w6 ⟨rfl, rfl⟩)
            refine hK.out _ _ ?_ (fun hHeld => ?_)
            · exact ⟨t0, t1, t2⟩
            clear hK K
            refine yieldD 5 (some 49) ?v8_5 rfl (by kernel_rfl) (fun _ _ _ h => h) (by assumption) ?h8_5 ?r8_5
            case h8_5 => (intro w h; (try dsimp only at h); go_simp; (try with_reducible rfl))
            try simp only [Act.put, List.setIfInBounds_toArray, List.set_cons_zero, List.set_cons_succ]
            refine yieldD 6 (some 50) ?v8_6 rfl (by kernel_rfl) (fun _ _ _ h => h) (by assumption) ?h8_6 ?r8_6
            case h8_6 => (intro w h; (try dsimp only at h); go_simp; (try with_reducible rfl))
            try simp only [Act.put, List.setIfInBounds_toArray, List.set_cons_zero, List.set_cons_succ]
            refine yieldD 7 (some 51) ?v8_7 rfl (by kernel_rfl) (fun _ _ _ h => h) (by assumption) ?h8_7 ?r8_7
            case h8_7 => (intro w h; (try dsimp only at h); go_simp; (try with_reducible rfl))
            try simp only [Act.put, List.setIfInBounds_toArray, List.set_cons_zero, List.set_cons_succ]
            refine yieldD 8 (some 52) ?v8_8 rfl (by kernel_rfl) (fun _ _ _ h => h) (by assumption) ?h8_8 ?r8_8
            case h8_8 => (intro w h; (try dsimp only at h); go_simp; (try with_reducible rfl))
            try simp only [Act.put, List.setIfInBounds_toArray, List.set_cons_zero, List.set_cons_succ]
            refine yieldD 9 (some 53) ?v8_9 rfl (by kernel_rfl) (fun _ _ _ h => h) (by assumption) ?h8_9 ?r8_9
            case h8_9 => (intro w h; (try dsimp only at h); go_simp; (try with_reducible rfl))
            try simp only [Act.put, List.setIfInBounds_toArray, List.set_cons_zero, List.set_cons_succ]
            refine yieldD 10 (some 54) ?v8_10 rfl (by kernel_rfl) (fun _ _ _ h => h) (by assumption) ?h8_10 ?r8_10
            case h8_10 => (intro w h; (try dsimp only at h); go_simp; (try with_reducible rfl))
            try simp only [Act.put, List.setIfInBounds_toArray, List.set_cons_zero, List.set_cons_succ]
            refine yieldD 11 (some 55) ?v8_11 rfl (by kernel_rfl) (fun _ _ _ h => h) (by assumption) ?h8_11 ?r8_11
            case h8_11 => (intro w h; (try dsimp only at h); go_simp; (try with_reducible rfl))
            try simp only [Act.put, List.setIfInBounds_toArray, List.set_cons_zero, List.set_cons_succ]
            refine yieldD 12 (some 56) ?v8_12 rfl (by kernel_rfl) (fun _ _ _ h => h) (by assumption) ?h8_12 ?r8_12
            case h8_12 => (intro w h; (try dsimp only at h); go_simp; (try with_reducible rfl))
            try simp only [Act.put, List.setIfInBounds_toArray, List.set_cons_zero, List.set_cons_succ]
            refine yieldD 13 (some 57) ?v8_13 rfl (by kernel_rfl) (fun _ _ _ h => h) (by assumption) ?h8_13 ?r8_13
            case h8_13 => (intro w h; (try dsimp only at h); go_simp; (try with_reducible rfl))
            try simp only [Act.put, List.setIfInBounds_toArray, List.set_cons_zero, List.set_cons_succ]
            refine skipD 14 (some 58) (by kernel_rfl) (fun _ _ _ h => h) (by assumption) ?_
            refine skipD 15 (some 59) (by kernel_rfl) (fun _ _ _ h => h) (by assumption) ?_
            refine skipD 16 (some 60) (by kernel_rfl) (fun _ _ _ h => h) (by assumption) ?_
            refine skipD 17 (some 61) (by kernel_rfl) (fun _ _ _ h => h) (by assumption) ?_
            try simp only [Act.put, List.setIfInBounds_toArray, List.set_cons_zero, List.set_cons_succ]
            refine yieldD 18 (some 62) ?v8_18 rfl (by kernel_rfl) (fun _ _ _ h => h) (by assumption) ?h8_18 ?r8_18
            case h8_18 => (intro w h; (try dsimp only at h); go_simp; (try with_reducible rfl))
            try simp only [Act.put, List.setIfInBounds_toArray, List.set_cons_zero, List.set_cons_succ]
            refine wpAnyH_ready (rs := [19]) (by kernel_rfl) (by simp) ?_
            refine AllReadyH.cons rfl (fun K hK => ?_) AllReadyH.nil
            go_simp
            refine hK.out _ _ ?_ (fun hHeld => ?_)
            · go_keep
            clear hK K
            refine yieldD 20 (some 3) ?v8_20 rfl (by kernel_rfl) (fun _ _ _ h => h) (by assumption) ?h8_20 ?r8_20
            case h8_20 => (intro w h; (try dsimp only at h); go_simp; (try with_reducible rfl))
            try simp only [Act.put, List.setIfInBounds_toArray, List.set_cons_zero, List.set_cons_succ]
            refine wpAnyH_done (by kernel_rfl) ?_ _
            all_goals (
              go_wp2
              refine bodyPost_ret ((Td.set3 HR5.out (a' := kd) (b' := id) (c' := tx)).drew.res rfl _ rfl) rfl ?_
              refine ⟨?_, (((HB5.out.setCell (by simp) _).setCell (by simp) _).setCell (by simp) _).drew⟩
              rw [← HQ2.out]
              first | rfl | simp [*])
          · go_wp2
            first
              | go_region_held_law (fun w' => w'.cell? ⟨T, 0, none⟩ = some (.int .i64 kd) ∧ w'.cell? ⟨T, 1, none⟩ = some (.string id) ∧ w'.cell? ⟨T, 2, none⟩ = some (.string tx)) (first | go_keep | exact ⟨t0, t1, t2⟩)
                  (first | (go_simp; go_at_call 46; refine (HI.out _).mono ?_; rintro e w6 ⟨rfl, rfl⟩))
              | fail
            all_goals (
              go_wp2
              refine bodyPost_ret ((Td.set3 HR5.out (a' := kd) (b' := id) (c' := tx)).drew.res rfl _ rfl) rfl ?_
              refine ⟨?_, (((HB5.out.setCell (by simp) _).setCell (by simp) _).setCell (by simp) _).drew⟩
              rw [← HQ2.out]
              first | rfl | simp [*])
end Go.Proofs.YtefnmfcgjlppaaaDoor.Hand
/- todo.thing in the print's shape. -/
namespace Go.Proofs.YtefnmfcgjlppaaaDoor.Hand
open Go.RowKit Go.Proofs.YtefnmfcgjlppaaaDoorW.PrintWords Go.Proofs.YtefnmfcgjlppaaaDoorW.PrintLast Go.Proofs.YtefnmfcgjlppaaaDoorW.PrintMore
open Go.Proofs.YtefnmfcgjlppaaaDoor.PTd
def todo_thing.f (a0 : ByteArray) : Option (Int × ByteArray × ByteArray × Bool) :=
  if a0.size ≤ 9223372036854775806 then some ((thingQ a0).1.1, (thingQ a0).1.2.1, (thingQ a0).1.2.2, (thingQ a0).2) else none
theorem todo_thing.calls (a0 : ByteArray) (r1 : Int) (r2 r3 : ByteArray) (r4 : Bool) (w : World) (hWd : Wds w) (h : todo_thing.f a0 = some (r1, r2, r3, r4)) :
    Calls Tryd.prog 23 #[.string a0] w fun e w' => e = .returned (.tuple #[.agg #[.int .i64 r1, .string r2, .string r3], .bool r4]) ∧ Below w.heap.size w w' := by
  unfold todo_thing.f at h
  split at h
  · simp only [Option.some.injEq, Prod.mk.injEq] at h
    obtain ⟨rfl, rfl, rfl, rfl⟩ := h
    exact thing_any a0 w hWd (by assumption)
  · cases h
end Go.Proofs.YtefnmfcgjlppaaaDoor.Hand
