/- The reference's Auto over a list that is only read, by hand. -/
import Derived.Test.YtefnmfcgjlppaaaDoorZTdPure3
namespace Go.Proofs.YtefnmfcgjlppaaaDoor.Hand
open Go.RowKit Go.Proofs.YtefnmfcgjlppaaaDoorW.PrintWords Go.Proofs.YtefnmfcgjlppaaaDoorW.PrintLast Go.Proofs.YtefnmfcgjlppaaaDoorW.PrintMore
open Go.Proofs.YtefnmfcgjlppaaaDoor.PTd Go.Proofs.YtefnmfcgjlppaaaDoor.Pure
set_option linter.unusedVariables false
set_option linter.unusedSimpArgs false
theorem rcheck_any (A0 : Option Addr) (c0 : Nat) (l : List S34) (w : World) (hr0 : Kd.C k34 w A0 l.length l) (hc0 : l.length ≤ c0) (hs : Sized l) :
    Calls Tryd.prog 18 #[.slice A0 l.length c0] w fun e w' => e = .returned (.int .i64 (checkQ l)) ∧ Below w.heap.size w w' := by
  obtain ⟨n, h⟩ := check_ev l hs
  exact graftageref42_Check.calls n A0 c0 l _ w hr0 hc0 (h n (Nat.le_refl _))
theorem goal_any (A0 : Option Addr) (c0 : Nat) (l : List S34) (a : Nat) (w : World) (hr0 : Kd.C k34 w A0 l.length l) (hc0 : l.length ≤ c0) (hs : Sized l) (hl : l.length ≤ 1000000000) (ha : a < l.length) :
    Calls Tryd.prog 32 #[.slice A0 l.length c0, .int .i64 a] w fun e w' => e = .returned (.tuple #[.int .i64 (goalR l a).1, .int .i64 (goalR l a).2]) ∧ Below w.heap.size w w' := by
  obtain ⟨n, h⟩ := goal_ev l hl hs a ha
  generalize goalR l a = G at *
  obtain ⟨g1, g2⟩ := G
  refine (graftageref42_goal.calls n A0 c0 l a g1 g2 w hr0 hc0 (h n (Nat.le_refl _))).mono ?_
  rintro e w' ⟨rfl, ⟨nd, rfl⟩⟩
  exact ⟨rfl, pw_below_drewN (Below.refl _ _) nd⟩
def RAuto1 (w : World) (l : List S34) (ov iv : Value) (wr : World) : Prop :=
  ∃ i : Nat, iv = .int .i64 i ∧ i ≤ l.length ∧ Kd.R k34 34 wr w.heap.size (fun _ => True) ov (outQ l i) ∧ Below w.heap.size w wr
def RAuto2 (w : World) (l : List S34) (i : Nat) (ov kv : Value) (wr : World) : Prop :=
  ∃ k : Nat, kv = .int .i64 k ∧ k ≤ l.length ∧ Kd.R k34 34 wr w.heap.size (fun _ => True) ov (outQ l i ++ [rd_T34 l i] ++ behQ l i k) ∧ Below w.heap.size w wr
set_option maxHeartbeats 2000000 in
set_option maxRecDepth 100000 in
theorem rauto_any (A0 : Option Addr) (c0 : Nat) (l : List S34) (w : World) (hr0 : Kd.C k34 w A0 l.length l) (hc0 : l.length ≤ c0) (hs : Sized l) :
    Calls Tryd.prog 13 #[.slice A0 l.length c0] w fun e w' => (checkQ l ≠ 0 ∧ e = .returned (.slice A0 l.length c0) ∨ checkQ l = 0 ∧ ∃ v0_ : Value, e = .returned (v0_) ∧ Kd.R k34 34 w' w.heap.size (fun _ => True) v0_ (autoQ l)) ∧ Below w.heap.size w w' := by
  have HR0 := Lib.hid hr0
  have HC0 := Lib.hid hc0
  have HS := Lib.hid hs
  clear hr0 hc0 hs
  by_cases hc : checkQ l = 0
  · obtain ⟨r, hr⟩ : ∃ r, autoQ l = r := ⟨_, rfl⟩
    rw [hr]
    unfold autoQ at hr
    rw [if_pos hc] at hr
    have HR := Lib.hid hr
    have HLE := Lib.hid (check_le hc)
    have HCQ := Lib.hid hc
    clear hr
    go_enter Tryd.func13, Tryd.ntmps13
    go_wp2_with (go_at_call 18; refine (rcheck_any _ _ l _ HR0.out HC0.out HS.out).mono ?_; rintro e w1 ⟨rfl, hb1⟩; have HB1 := Lib.hid hb1; clear hb1; rw [hc])
    clear hc
    go_loopw [3, 4] (fun ov iv wr => RAuto1 w l ov iv wr) (fun _ iv _ => (l.length - intOf iv).toNat)
    case atStart => exact ⟨0, rfl, Nat.zero_le _, Kd.R_nil _ _ _ _ _, HB1.out⟩
    case round =>
      obtain ⟨i, rfl, hi, hR, hbel⟩ := hrel
      clear HB1
      obtain ⟨Ao, co, hov⟩ := Kd.R_slice hR
      subst hov
      by_cases c : (i : Int) < (l.length : Int)
      · have cb : decide ((i : Int) < (l.length : Int)) = true := decide_eq_true c
        have i0 : 0 ≤ (i : Int) := by omega
        have hlt : i < l.length := by omega
        have hw : IntKind.i64.wrap ((i : Int) + 1) = (i : Int) + 1 := by rw [i64_w]; exact wrap64_id (by omega) (by have := HLE.out; omega)
        have hgo := goal_any A0 c0 l i wr (Kd.C_below HR0.out hbel) HC0.out HS.out (by have := HLE.out; omega) hlt
        have HGO := Lib.hid hgo
        have HRO := Lib.hid hR
        have HB := Lib.hid hbel
        clear hgo hR hbel
        go_wp2_with fail
        refine HGO.out.mono ?_
        rintro e w2 ⟨rfl, hb2⟩
        have HB2 := Lib.hid (HB.out.trans (hb2.mono HB.out.size))
        have HR2 := Lib.hid (Kd.R_below HRO.out hb2)
        clear hb2 HB HRO HGO
        by_cases g : (goalQ l i).1 < 0
        · have eg : goalR l i = (-1, 0) := by unfold goalR; rw [if_pos g]
          rw [eg]
          have hlen := outQ_length l i
          have hsm : i * (l.length + 1) ≤ 256 * 257 := Nat.mul_le_mul (by have := HLE.out; omega) (by have := HLE.out; omega)
          obtain ⟨ad, e, h0, h1, h2⟩ := at_T34 HR0.out (i : Int) i0 c
          cases e
          replace h0 := (HB2.out.cell (World.block_lt_of_cell? w _ h0)).trans h0
          replace h1 := (HB2.out.cell (World.block_lt_of_cell? w _ h1)).trans h1
          replace h2 := (HB2.out.cell (World.block_lt_of_cell? w _ h2)).trans h2
          simp only [Int.toNat_natCast] at h0 h1 h2
          have hzb : ((outQ l i).length + 1) * 40 ≤ 140737488355328 := by have := HLE.out; omega
          have HZB := Lib.hid hzb
          have HG := Lib.hid g
          obtain ⟨x, hx⟩ : ∃ x, rd_T34 l (i : Int) = x := ⟨_, rfl⟩
          rw [hx] at h0 h1 h2
          have HX := Lib.hid hx
          clear hzb hlen hsm g hx eg
          go_wp2_with (at_builtin; refine Kd.R_append k34 (w0 := w) w.heap.size rfl _ _ 23 34 (.agg #[.int .i64 0, .string ⟨#[]⟩, .string ⟨#[]⟩]) 40 rfl Tryd.underlying23 info34 rfl (by decide) (by decide) (.slice Ao (outQ l i).length co) (outQ l i) x [.int .i64 x.f0, .string x.f1, .string x.f2] (fun _ => True) (fun _ => False) rfl (by simp [go_sem]) (k34_mkM _ _ _ _) (fun _ h => h.elim) (fun _ _ => trivial) HR2.out HB2.out HB2.out.size HZB.out ?_; intro v1 w3 hR3 hB3 hg3 hat3; have HR3 := Lib.hid hR3; have HB3 := Lib.hid hB3; clear hR3 hB3 hg3 hat3)
          clear h0 h1 h2
          go_loopw [3, 7] (fun ov kv wr => RAuto2 w l i ov kv wr) (fun _ kv _ => (l.length - intOf kv).toNat)
          case atStart =>
            refine ⟨i + 1, rfl, by omega, ?_, HB3.out⟩
            rw [HX.out, beh_nil l i (i + 1) (Nat.le_refl _), List.append_nil]
            exact HR3.out
          case round =>
            obtain ⟨k, rfl, hk, hR, hbel⟩ := hrel
            clear HR3 HB3
            obtain ⟨Ao, co, hov⟩ := Kd.R_slice hR
            subst hov
            by_cases ck : (k : Int) < (l.length : Int)
            · have ckb : decide ((k : Int) < (l.length : Int)) = true := decide_eq_true ck
              have k0 : 0 ≤ (k : Int) := by omega
              have klt : k < l.length := by omega
              have hwk : IntKind.i64.wrap ((k : Int) + 1) = (k : Int) + 1 := by rw [i64_w]; exact wrap64_id (by omega) (by have := HLE.out; omega)
              have hgo := goal_any (some ad) c0 l k wr (Kd.C_below HR0.out hbel) HC0.out HS.out (by have := HLE.out; omega) klt
              have hbs : behQ l i (k + 1) = behQ l i k ++ (if (goalQ l k).1 = i then [(⟨(goalQ l k).2, (rd_T34 l k).f1, (rd_T34 l k).f2⟩ : S34)] else []) := rfl
              have hge := goalQ_lt l k
              have hlen := outQ_length l i
              have hbl := behQ_length l i k
              have hsm : i * (l.length + 1) ≤ 256 * 257 := Nat.mul_le_mul (by have := HLE.out; omega) (by have := HLE.out; omega)
              have hzb : ((outQ l i ++ [rd_T34 l i] ++ behQ l i k).length + 1) * 40 ≤ 140737488355328 := by simp; have := HLE.out; omega
              obtain ⟨j, hj⟩ : ∃ j, goalR l k = j := ⟨_, rfl⟩
              have hjr := hj
              unfold goalR at hjr
              rw [hj] at hgo
              obtain ⟨j1, j2⟩ := j
              generalize goalQ l k = q at *
              obtain ⟨q1, q2⟩ := q
              generalize hxs : outQ l i ++ [rd_T34 l i] ++ behQ l i k = xs at *
              have HXS := Lib.hid hxs
              clear hxs
              have HBS := Lib.hid hbs
              have HJR := Lib.hid hjr
              have HGE := Lib.hid hge
              have HZB2 := Lib.hid hzb
              have HGO := Lib.hid hgo
              have HRO := Lib.hid hR
              have HB := Lib.hid hbel
              clear hgo hR hbel hbs hjr hge hlen hbl hsm hzb hj
              go_wp2_with fail
              refine HGO.out.mono ?_
              rintro e w4 ⟨rfl, hb4⟩
              have HB4 := Lib.hid (HB.out.trans (hb4.mono HB.out.size))
              have HR4 := Lib.hid (Kd.R_below HRO.out hb4)
              clear hb4 HB HRO HGO
              by_cases gi : j1 = (i : Int)
              · subst gi
                have hq : (q1, q2) = ((i : Int), j2) := by
                  have := HJR.out
                  by_cases cq : q1 < 0
                  · rw [if_pos cq] at this; injection this with h1 h2; omega
                  · rw [if_neg cq] at this; exact this
                injection hq with hq1 hq2
                subst hq1 hq2
                obtain ⟨ad2, e2, h0, h1, h2⟩ := at_T34 HR0.out (k : Int) k0 ck
                cases e2
                replace h0 := (HB4.out.cell (World.block_lt_of_cell? w _ h0)).trans h0
                replace h1 := (HB4.out.cell (World.block_lt_of_cell? w _ h1)).trans h1
                replace h2 := (HB4.out.cell (World.block_lt_of_cell? w _ h2)).trans h2
                simp only [Int.toNat_natCast] at h0 h1 h2
                have hbs := HBS.out
                rw [if_pos rfl] at hbs
                obtain ⟨y, hy⟩ : ∃ y, rd_T34 l (k : Int) = y := ⟨_, rfl⟩
                rw [hy] at h0 h1 h2 hbs
                have HBS2 := Lib.hid hbs
                clear hbs hy HJR HBS HGE
                go_upto_region 15 with (fail)
                have hR15 := HR4.out
                have hz15 := HZB2.out
                have hs15 := HB4.out.size
                go_region_law
                  ((refine Kd.R_append_step k34 (w0 := w4) w.heap.size rfl _ _ 23 34 (.agg #[.int .i64 0, .string ⟨#[]⟩, .string ⟨#[]⟩]) 40 rfl Tryd.underlying23 info34 rfl (by decide) (by decide) (.slice Ao xs.length co) xs (⟨q2, y.f1, y.f2⟩ : S34) [.int .i64 q2, .string y.f1, .string y.f2] (fun _ => True) (fun _ => False) rfl (by simp [go_sem]) (k34_mkM _ _ _ (⟨q2, y.f1, y.f2⟩ : S34)) (fun _ h => h.elim) (fun _ _ => trivial) (Kd.R_drew hR15) (below_drew1 (Below.refl _ _)) hs15 hz15 ?_; intro v1 w5 hR5 hB5 hg5 hat5))
                all_goals
                  have HR5 := Lib.hid hR5
                  have HB5 := Lib.hid (HB4.out.trans hB5)
                  clear hR5 hB5 hg5 hat5 hR15 hz15 hs15 HR4 HB4
                  go_wp2
                  refine ⟨⟨k + 1, rfl, by omega, by rw [HBS2.out, ← List.append_assoc, HXS.out]; exact HR5.out, HB5.out⟩, ?_⟩
                  simp [intOf]; omega
              · have gib : (j1 == (i : Int)) = false := beq_eq_false_iff_ne.mpr gi
                have hq : q1 ≠ (i : Int) := by
                  intro h
                  have := HJR.out
                  rw [if_neg (by omega)] at this
                  injection this with h1 h2
                  omega
                have hbs := HBS.out
                rw [if_neg hq, List.append_nil] at hbs
                have HBS2 := Lib.hid hbs
                clear hbs HBS HJR HGE hq gi
                go_wp2
                refine ⟨⟨k + 1, rfl, by omega, by rw [HBS2.out, HXS.out]; exact HR4.out, HB4.out⟩, ?_⟩
                simp [intOf]; omega
            · have ckb : decide ((k : Int) < (l.length : Int)) = false := decide_eq_false ck
              obtain rfl : k = l.length := by omega
              have ho : outQ l (i + 1) = outQ l i ++ [rd_T34 l i] ++ behQ l i l.length := by rw [outQ, if_neg (by have := HG.out; omega), List.append_assoc]
              generalize hxs : outQ l i ++ [rd_T34 l i] ++ behQ l i l.length = xs at *
              have HXS := Lib.hid ho
              have HRO := Lib.hid hR
              have HB := Lib.hid hbel
              clear hR hbel ho ck hk hxs
              go_wp2
              refine ⟨⟨i + 1, rfl, by omega, by rw [HXS.out]; exact HRO.out, HB.out⟩, ?_⟩
              simp [intOf]; omega
        · have eg : goalR l i = goalQ l i := by unfold goalR; rw [if_neg g]
          rw [eg]
          have ho : outQ l (i + 1) = outQ l i := by rw [outQ, if_pos (by omega), List.append_nil]
          have hr2 := HR2.out
          rw [← ho] at hr2
          have HR5 := Lib.hid hr2
          have g2 : decide ((goalQ l i).1 ≥ 0) = true := decide_eq_true (by omega)
          have g3 : decide (0 ≤ (goalQ l i).1) = true := decide_eq_true (by omega)
          have len : (outQ l i).length = (outQ l (i + 1)).length := by rw [ho]
          generalize goalQ l i = q at *
          obtain ⟨q1, q2⟩ := q
          clear hr2 HR2 eg g ho
          go_wp2
          refine ⟨⟨i + 1, rfl, by omega, HR5.out, HB2.out⟩, ?_⟩
          simp [intOf]; omega
      · have cb : decide ((i : Int) < (l.length : Int)) = false := decide_eq_false c
        obtain rfl : i = l.length := by omega
        have HRO := Lib.hid hR
        have HB := Lib.hid hbel
        clear hR hbel c hi
        go_wp2
        go_ret
        exact ⟨Or.inr ⟨HCQ.out, _, rfl, by rw [← HR.out]; exact HRO.out⟩, HB.out⟩
  · obtain ⟨c, hc'⟩ : ∃ c, checkQ l = c := ⟨_, rfl⟩
    rw [hc'] at hc ⊢
    have e1 : (c == 0) = false := beq_eq_false_iff_ne.mpr hc
    have e2 : (c != 0) = true := by simp [bne, e1]
    have HCN := Lib.hid hc
    clear hc
    go_enter Tryd.func13, Tryd.ntmps13
    go_wp2_with (go_at_call 18; refine (rcheck_any _ _ l _ HR0.out HC0.out HS.out).mono ?_; rintro e w1 ⟨rfl, hb1⟩; have HB1 := Lib.hid hb1; clear hb1; rw [hc'])
    go_ret
    exact ⟨Or.inl ⟨HCN.out, rfl⟩, HB1.out⟩
end Go.Proofs.YtefnmfcgjlppaaaDoor.Hand
