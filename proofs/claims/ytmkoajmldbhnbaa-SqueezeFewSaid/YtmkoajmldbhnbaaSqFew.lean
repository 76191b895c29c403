/- The law SqueezeFew, by hand: its text makes a row with a capacity of its own. -/
import Derived.Test.YtmkoajmldbhnbaaSqFewP
import Derived.Test.YtmkoajmldbhnbaaSqLives
namespace Go.Proofs.Ytmkoajmldbhnbaa.Hand
open Go.RowKit Go.Proofs.YtmkoajmldbhnbaaW.PrintWords Go.Proofs.YtmkoajmldbhnbaaW.PrintLast Go.Proofs.YtmkoajmldbhnbaaW.PrintMore
open Go.Proofs.Ytmkoajmldbhnbaa.PSq
set_option linter.unusedVariables false
set_option linter.unusedSimpArgs false
theorem few_big (c n : Int) (s : ByteArray) (w : World) (h0 : 0 ≤ n) (h1 : n < 65536) (hs : s.size ≤ 140737488351232) (hbig : 1500 < s.size) :
    Calls Try.prog 6 #[.int .u8 c, .int .u16 n, .string s] w fun e w' => e = .returned (.bool true) ∧ Below w.heap.size w w' := by
  have hb' : (1500 : Int) < s.size := by omega
  go_enter Try.func6, Try.ntmps6
  go_wp2_with (go_at_call 8; refine (graftagelaw03_lives.calls true _ lives_f).mono ?_; rintro e w1 ⟨rfl, hB1⟩)
  go_ret
  exact ⟨rfl, hB1⟩
theorem made_buf (n : Int) (h0 : 0 ≤ n) (h1 : n < 65536) (w : World) : ∃ W m : _, ((m : Nat) : Int) = n % 3000 ∧ m < 3000 ∧ (Instr.makeSlice 30 (.int .i64 0) (.int .i64 (n % 3000))).run Try.prog w = .ok (.slice (some ⟨w.heap.size, 0, none⟩) 0 m) W ∧ Buf W w.heap.size 5 (.slice (some ⟨w.heap.size, 0, none⟩) 0 m) [] ∧ Below w.heap.size w W := by
  obtain ⟨i0, hi, hz0, hz1, hz2⟩ := info_parts info5
  obtain ⟨m, hm⟩ : ∃ m : Nat, n % 3000 = m := Int.eq_ofNat_of_zero_le (by omega)
  have hr := run_make (P := Try.prog) w 30 5 i0 (.int .u8 0) Try.underlying30 hi hz0 .i64 .i64 0 m (Int.le_refl _) (by omega) (by rw [hz2]; omega) (by omega)
  rw [hz1] at hr
  refine ⟨_, m, hm.symm, by omega, by rw [hm]; exact hr, ⟨w.heap.size, m, madeCells (Value.int .u8 0).cells (m * 1), (0, 0), rfl, Nat.le_refl _, ?_, Nat.zero_le _, by unfold maxLen; omega, by rw [size_madeCells]; omega, fun j _ => by simp, by simp [nums]⟩, (Below.refl _ w).alloc (Nat.le_refl _) _⟩
  simpa using heap_alloc_new w (.cells (madeCells (Value.int .u8 0).cells (m * 1)) 5)
theorem bound_fw (n : Nat) (h : n ≤ 1000000) : squeeze_Bound.f (n : Int) = some ((n : Int) + (n : Int) / 64 + 16) := by
  unfold squeeze_Bound.f
  rw [if_neg (by omega), Int.tdiv_eq_ediv_of_nonneg (by omega), wrap64_id (n := (n : Int) / 64) (by omega) (by omega), wrap64_id (n := (n : Int) + (n : Int) / 64) (by omega) (by omega), wrap64_id (by omega) (by omega)]
def FewRel (w : World) (c : Int) (m : Nat) (tv iv : Value) (wr : World) : Prop :=
  ∃ k : Nat, iv = .int .i64 k ∧ k ≤ m ∧ Buf wr w.heap.size 5 tv (List.replicate k c) ∧ Below w.heap.size w wr
set_option maxHeartbeats 2000000 in
set_option maxRecDepth 100000 in
theorem few_rest (c n : Int) (s : ByteArray) (w : World) (hc0 : 0 ≤ c) (hc1 : c ≤ 255) (h0 : 0 ≤ n) (h1 : n < 65536) (hs : s.size ≤ 1500) :
    Calls Try.prog 6 #[.int .u8 c, .int .u16 n, .string s] w fun e w' => e = .returned (.bool true) ∧ Below w.heap.size w w' := by
  have hb' : decide ((1500 : Int) < s.size) = false := by simp; omega
  obtain ⟨W, m, hm, hm3, hmk, hbuf, hB⟩ := made_buf n h0 h1 w
  have hstart : FewRel w c m (.slice (some ⟨w.heap.size, 0, none⟩) 0 m) (.int .i64 0) W := ⟨0, rfl, Nat.zero_le _, hbuf, hB⟩
  have HS := Lib.hid hstart
  have HM := Lib.hid hm
  clear hstart hm hbuf
  go_enter Try.func6, Try.ntmps6
  go_wp2
  go_loopw [8, 9] (fun tv iv wr => FewRel w c m tv iv wr) (fun _ iv _ => m - (intOf iv).toNat)
  case atStart => exact HS.out
  case round =>
    obtain ⟨k, rfl, hk, hbuf, hB2⟩ := hrel
    have hz := hB2.size
    clear HS hmk hB
    by_cases hlt : k < m
    · have hlt' : (k : Int) < n % 3000 := by have := HM.out; omega
      have hlen' : (List.replicate k c).length + 1 ≤ 140737488355328 := by simp; omega
      go_wp2_with (at_builtin; refine wpList_append_buf _ rfl _ _ 30 rfl 5 Try.underlying30 info5 w.heap.size _ _ rfl (hbuf.alloc _) (by simp; omega) ⟨wr.heap.size, 0, none⟩ 1 c rfl (by simp) hlen' ?_; intro v' w1 hb1 hB1)
      go_roundw
      case rel => exact ⟨k + 1, by simp, by omega, by rw [List.replicate_succ']; exact hb1, (hB2.alloc hz _).trans hB1⟩
      case measure => simp [intOf]; omega
    · obtain rfl : k = m := by omega
      have hge : decide ((k : Int) < n % 3000) = false := by have := HM.out; simp; omega
      have hcs := Buf.string (P := Try.prog) (src := 30) (dst := 9) Try.underlying30 Try.underlying5 Try.underlying9 hbuf
      have hz2 : (strOfNums (List.replicate k c)).size = k := by rw [strOfNums_size, List.length_replicate]
      have hz3 : (strOfNums (List.replicate k c)).size ≤ 1000000 := by omega
      have hz4 : (s ++ s).size ≤ 1000000 := by rw [size_append]; omega
      have hz5 : (s ++ s).size = s.size + s.size := size_append s s
      have htw := few_twice s
      have hsm := few_same c k
      have HZ5 := Lib.hid hz5
      have HZ2 := Lib.hid hz2
      have HTW := Lib.hid htw
      have HSM := Lib.hid hsm
      clear hz5 htw hsm hz2
      have hsz : (s.size : Int) / 64 = ((s.size / 64 : Nat) : Int) := by omega
      have hbd : ∀ W, Calls Try.prog 11 #[.int .i64 s.size] W fun e w' => e = .returned (.int .i64 ((s.size : Int) + s.size / 64 + 16)) ∧ Drawn0 W w' := fun W => squeeze_Bound.calls _ _ W (by rw [bound_fw s.size (by omega)])
      have HBD := Lib.hid hbd
      clear hbd hsz
      by_cases h5 : 5 ≤ k
      all_goals by_cases h4 : 4 ≤ s.size
      · have t1 : decide ((5 : Int) ≤ n % 3000) = true := by have := HM.out; simp; omega
        have t2 : decide ((16 : Int) + n % 3000 / 64 < ((compS (strOfNums (List.replicate k c))).size : Int)) = false := by have := HM.out; have := HSM.out h5 (by omega) hc0 hc1; simp; omega
        have t3 : decide ((s.size : Int) < 4) = false := by simp; omega
        have t4 : decide (((compS (s ++ s)).size : Int) ≤ (s.size : Int) + s.size / 64 + 16 + 4 * ((s.size : Int) / 258 + 2)) = true := by have := HTW.out h4 hs; simp; omega
        go_wp2_with (first | (go_at_call 9; ((with_reducible refine (press_any (strOfNums (List.replicate k c)) _ hz3).mono ?_); rintro e w1 ⟨rfl, hB3⟩)) | (go_at_call 9; ((with_reducible refine (press_any (s ++ s) _ hz4).mono ?_); rintro e w1 ⟨rfl, hB5⟩)) | (go_at_call 8; refine (graftagelaw03_lives.calls true _ lives_f).mono ?_; rintro e w1 ⟨rfl, hB4⟩) | (go_at_call 11; refine (HBD.out _).mono ?_; rintro e w1 ⟨rfl, hB6⟩))
        go_ret
        refine ⟨rfl, ?_⟩
        have z3 := hB3.size
        have q3 := hB2.trans (hB3.mono (by omega))
        have z4 := hB4.size
        have q4 := q3.trans (hB4.mono (by omega))
        have z5 := hB5.size
        have q5 := q4.trans (hB5.mono (by omega))
        exact q5.trans (hB6.below.mono (by omega))
      · have t1 : decide ((5 : Int) ≤ n % 3000) = true := by have := HM.out; simp; omega
        have t2 : decide ((16 : Int) + n % 3000 / 64 < ((compS (strOfNums (List.replicate k c))).size : Int)) = false := by have := HM.out; have := HSM.out h5 (by omega) hc0 hc1; simp; omega
        have t3 : decide ((s.size : Int) < 4) = true := by simp; omega
        go_wp2_with (first | (go_at_call 9; ((with_reducible refine (press_any (strOfNums (List.replicate k c)) _ hz3).mono ?_); rintro e w1 ⟨rfl, hB3⟩)) | (go_at_call 9; ((with_reducible refine (press_any (s ++ s) _ hz4).mono ?_); rintro e w1 ⟨rfl, hB5⟩)) | (go_at_call 8; refine (graftagelaw03_lives.calls true _ lives_f).mono ?_; rintro e w1 ⟨rfl, hB4⟩) | (go_at_call 11; refine (HBD.out _).mono ?_; rintro e w1 ⟨rfl, hB6⟩))
        go_ret
        refine ⟨rfl, ?_⟩
        have z3 := hB3.size
        have q3 := hB2.trans (hB3.mono (by omega))
        have z4 := hB4.size
        have q4 := q3.trans (hB4.mono (by omega))
        exact q4
      · have t1 : decide ((5 : Int) ≤ n % 3000) = false := by have := HM.out; simp; omega
        have t3 : decide ((s.size : Int) < 4) = false := by simp; omega
        have t4 : decide (((compS (s ++ s)).size : Int) ≤ (s.size : Int) + s.size / 64 + 16 + 4 * ((s.size : Int) / 258 + 2)) = true := by have := HTW.out h4 hs; simp; omega
        go_wp2_with (first | (go_at_call 9; ((with_reducible refine (press_any (strOfNums (List.replicate k c)) _ hz3).mono ?_); rintro e w1 ⟨rfl, hB3⟩)) | (go_at_call 9; ((with_reducible refine (press_any (s ++ s) _ hz4).mono ?_); rintro e w1 ⟨rfl, hB5⟩)) | (go_at_call 8; refine (graftagelaw03_lives.calls true _ lives_f).mono ?_; rintro e w1 ⟨rfl, hB4⟩) | (go_at_call 11; refine (HBD.out _).mono ?_; rintro e w1 ⟨rfl, hB6⟩))
        go_ret
        refine ⟨rfl, ?_⟩
        have z3 := hB2.size
        have q3 := hB2
        have z4 := hB4.size
        have q4 := q3.trans (hB4.mono (by omega))
        have z5 := hB5.size
        have q5 := q4.trans (hB5.mono (by omega))
        exact q5.trans (hB6.below.mono (by omega))
      · have t1 : decide ((5 : Int) ≤ n % 3000) = false := by have := HM.out; simp; omega
        have t3 : decide ((s.size : Int) < 4) = true := by simp; omega
        go_wp2_with (first | (go_at_call 9; ((with_reducible refine (press_any (strOfNums (List.replicate k c)) _ hz3).mono ?_); rintro e w1 ⟨rfl, hB3⟩)) | (go_at_call 9; ((with_reducible refine (press_any (s ++ s) _ hz4).mono ?_); rintro e w1 ⟨rfl, hB5⟩)) | (go_at_call 8; refine (graftagelaw03_lives.calls true _ lives_f).mono ?_; rintro e w1 ⟨rfl, hB4⟩) | (go_at_call 11; refine (HBD.out _).mono ?_; rintro e w1 ⟨rfl, hB6⟩))
        go_ret
        refine ⟨rfl, ?_⟩
        have z3 := hB2.size
        have q3 := hB2
        have z4 := hB4.size
        have q4 := q3.trans (hB4.mono (by omega))
        exact q4
theorem few_any (c n : Int) (s : ByteArray) (w : World) (hc0 : 0 ≤ c) (hc1 : c ≤ 255) (h0 : 0 ≤ n) (h1 : n < 65536) (hs : s.size ≤ 140737488351232) :
    Calls Try.prog 6 #[.int .u8 c, .int .u16 n, .string s] w fun e w' => e = .returned (.bool true) ∧ Below w.heap.size w w' := by
  by_cases h : s.size ≤ 1500
  · exact few_rest c n s w hc0 hc1 h0 h1 h
  · exact few_big c n s w h0 h1 hs (by omega)
end Go.Proofs.Ytmkoajmldbhnbaa.Hand
