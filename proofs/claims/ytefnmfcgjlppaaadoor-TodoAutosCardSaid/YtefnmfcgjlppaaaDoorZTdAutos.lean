/- The law TodoAutos, walked by hand. -/
import Derived.Test.YtefnmfcgjlppaaaDoorZTdRAuto
import Derived.Test.YtefnmfcgjlppaaaDoorZRow
namespace Go.Proofs.YtefnmfcgjlppaaaDoor.Hand
open Go.RowKit Go.Proofs.YtefnmfcgjlppaaaDoorW.PrintWords Go.Proofs.YtefnmfcgjlppaaaDoorW.PrintLast Go.Proofs.YtefnmfcgjlppaaaDoorW.PrintMore
open Go.Proofs.YtefnmfcgjlppaaaDoor.PTd Go.Proofs.YtefnmfcgjlppaaaDoor.Pure
set_option linter.unusedVariables false
set_option linter.unusedSimpArgs false
theorem lives_any (w : World) (hW : Wds w) : Calls Tryd.prog 8 #[] w fun e w' => e = .returned (.bool true) ∧ Below w.heap.size w w' :=
  graftagelaw42_lives.calls 300 true w hW lives_k
theorem same_any (r : List S34) (hr : r.length ≤ 1000000000) (A : Option Addr) (c : Nat) (B : Option Addr) (d : Nat) (w : World) (h1 : Kd.C k34 w A r.length r) (hc : r.length ≤ c) (h2 : Kd.C k34 w B r.length r) (hd : r.length ≤ d) :
    Calls Tryd.prog 11 #[.slice A r.length c, .slice B r.length d] w fun e w' => e = .returned (.bool true) ∧ Drawn0 w w' := by
  obtain ⟨n, h⟩ := same_ev r hr
  exact graftageref42_Same.calls n A c r B d r true w h1 hc h2 hd (h n (Nat.le_refl _))
set_option maxHeartbeats 2000000 in
set_option maxRecDepth 100000 in
theorem autos_any (A0 : Option Addr) (c0 : Nat) (l : List S34) (w : World) (hr0 : Kd.C k34 w A0 l.length l) (hc0 : l.length ≤ c0) (hW : Wds w) (hs : Sized l) :
    Calls Tryd.prog 4 #[.slice A0 l.length c0] w fun e w' => e = .returned (.bool true) ∧ Below w.heap.size w w' := by
  have HR0 := Lib.hid hr0
  have HC0 := Lib.hid hc0
  have HS := Lib.hid hs
  have HW := Lib.hid hW
  clear hr0 hc0 hs hW
  by_cases hl : (l.length : Int) > 60
  · have b1 : decide ((l.length : Int) > 60) = true := decide_eq_true hl
    have b2 : decide (60 < (l.length : Int)) = true := decide_eq_true hl
    clear hl
    go_enter Tryd.func4, Tryd.ntmps4
    go_wp2_with (go_at_call 8; refine (lives_any _ HW.out).mono ?_; rintro e w1 ⟨rfl, hb1⟩; have HB1 := Lib.hid hb1; clear hb1)
    go_ret
    exact ⟨rfl, HB1.out⟩
  · have b1 : decide ((l.length : Int) > 60) = false := decide_eq_false hl
    have b2 : decide (60 < (l.length : Int)) = false := decide_eq_false hl
    have HL := Lib.hid hl
    have hz : (autoQ l).length ≤ 1000000000 := by
      unfold autoQ
      split
      · have := outQ_length l l.length
        have : l.length * (l.length + 1) ≤ 60 * 61 := Nat.mul_le_mul (by omega) (by omega)
        omega
      · omega
    have ha := fun w hr => auto_any A0 c0 l w hr HC0.out (by omega)
    have hra := fun w hr => rauto_any A0 c0 l w hr HC0.out HS.out
    have hA : checkQ l ≠ 0 → autoQ l = l := fun h => by unfold autoQ; rw [if_neg h]
    have hsm := same_any (autoQ l) hz
    generalize autoQ l = r at *
    have HAU := Lib.hid ha
    have HRA := Lib.hid hra
    have HSM := Lib.hid hsm
    have HAL := Lib.hid hA
    clear hl ha hra hsm hA hz
    go_enter Tryd.func4, Tryd.ntmps4
    go_wp2_with fail
    refine (HAU.out _ HR0.out).mono ?_
    rintro e w1 ⟨v1, rfl, hR1, hb1⟩
    obtain ⟨A1, c1, hv1⟩ := Kd.R_slice hR1
    subst hv1
    have HR1 := Lib.hid hR1
    have HB1 := Lib.hid hb1
    clear hR1 hb1
    go_wp2_with fail
    refine (HRA.out _ (Kd.C_below HR0.out HB1.out)).mono ?_
    rintro e w2 ⟨hcase, hb2⟩
    have HB2 := Lib.hid (HB1.out.trans (hb2.mono HB1.out.size))
    have HC2 := Lib.hid (Kd.R_reads' (Kd.R_below HR1.out hb2))
    have hv : ∃ B d, e = .returned (.slice B r.length d) ∧ Kd.C k34 w2 B r.length r ∧ r.length ≤ d := by
      rcases hcase with ⟨h1, rfl⟩ | ⟨h1, v0, rfl, hR⟩
      · have e1 := HAL.out h1
        refine ⟨A0, c0, by rw [e1], ?_, by rw [e1]; exact HC0.out⟩
        rw [e1]
        exact Kd.C_below HR0.out HB2.out
      · obtain ⟨B, d, rfl⟩ := Kd.R_slice hR
        have := Kd.R_reads' hR
        exact ⟨B, d, rfl, this.2.2, this.2.1⟩
    obtain ⟨B, d, rfl, hC3, hd3⟩ := hv
    have HC3 := Lib.hid hC3
    have HD3 := Lib.hid hd3
    clear hcase hb2 hC3 hd3 HB1
    go_wp2_with fail
    refine (HSM.out _ _ _ _ _ HC2.out.2.2 HC2.out.2.1 HC3.out HD3.out).mono ?_
    rintro e w3 ⟨rfl, ⟨n3, rfl⟩⟩
    have HB3 := Lib.hid (pw_below_drewN HB2.out n3)
    clear HB2
    generalize w2.drewN n3 = w3 at *
    go_wp2_with fail
    refine (lives_any _ (HW.out.below HB3.out)).mono ?_
    rintro e w4 ⟨rfl, hb4⟩
    have HB4 := Lib.hid (HB3.out.trans (hb4.mono HB3.out.size))
    clear hb4
    go_wp2
    go_ret
    exact ⟨rfl, HB4.out⟩
end Go.Proofs.YtefnmfcgjlppaaaDoor.Hand
