/- (*spread).piece: the literal case. -/
import Derived.Test.YtmkoajmldbhnbaaSqSpread
namespace Go.Proofs.Ytmkoajmldbhnbaa.Hand
open Go.RowKit Go.Proofs.YtmkoajmldbhnbaaW.PrintWords Go.Proofs.YtmkoajmldbhnbaaW.PrintLast Go.Proofs.YtmkoajmldbhnbaaW.PrintMore
open Go.Proofs.Ytmkoajmldbhnbaa.PSqA
set_option linter.unusedVariables false
set_option linter.unusedSimpArgs false
set_option maxHeartbeats 4000000 in
set_option maxRecDepth 100000 in
theorem piece_lit (g : Nat) (s : ByteArray) (left : Int) (out : List Int) (r1 r2 r3 : Int) (w : World) (hz : s.size ≤ 1000000000) (hl0 : 0 ≤ left) (hl1 : left ≤ 1000000000) (hlen : out.length ≤ 1000000000) (hu : IntKind.u64.wrap left = left)
    (h2s : r2 ≤ s.size) (h10 : 0 ≤ r1) (h11 : r1 < 18446744073709551616) (hr20 : 0 ≤ r2) (hn1 : r1 / 2 ≤ 1000000000) (hn2 : r2 + r1 / 2 ≤ s.size) (hn3 : 0 ≤ r1 / 2)
    (arm1 : Calls Try.prog 21 #[.pointer (some ⟨g, 0, none⟩)] w fun e w' => e = .returned (.tuple #[.int .u64 r1, .int .i64 r3]) ∧ Spr w' g s r2 out ∧ Below g w w')
    (hb1 : (r3 != 0) = false) (a1d : decide (r1 / 2 < 1) = false) (a3d : decide (r1 / 2 > left) = false) (a4d : decide ((s.size : Int) - r2 < r1 / 2) = false) (a1 : ¬ r1 / 2 < 1) (a3 : ¬ r1 / 2 > left) (a4 : ¬ (s.size : Int) - r2 < r1 / 2) (ag : (r1 % 2 == 1) = false) :
    Calls Try.prog 22 #[.pointer (some ⟨g, 0, none⟩), .int .i64 left] w fun e w' => e = .returned (.int .i64 0) ∧ Spr w' g s (r2 + r1 / 2) (out ++ bytesOf (s.extract r2.toNat (r2 + r1 / 2).toNat)) ∧ Below g w w' := by
  go_enter Try.func22, Try.ntmps22
  go_wp2_with (go_at_call 21; refine arm1.mono ?_; rintro e w1 ⟨rfl, hs1, hB1⟩; have hs1' := hs1; obtain ⟨v1, hblk1, hown1⟩ := hs1'; have c0 := sp0 hblk1; have c1 := sp1 hblk1; have c2 := sp2 hblk1)
  go_quiet (fail)
  go_upto_region 10 with (fail)
  have HOwn := Lib.hid hown1
  have HBlk := Lib.hid hblk1
  have hx : (bytesOf (s.extract r2.toNat (r2 + r1 / 2).toNat)).map (Value.int .u8) = Lib.strCells (s.extract r2.toNat (r2 + r1 / 2).toNat) := by unfold Lib.strCells bytesOf; simp [Function.comp_def]
  have hxz : (s.extract r2.toNat (r2 + r1 / 2).toNat).size ≤ s.size := by rw [ByteArray.size_extract]; omega
  have HX := Lib.hid hx
  obtain ⟨i0, hi, hz0, hzz1, hzz2⟩ := info_parts infoU8
  clear hx
  go_cut [] from 53 to 76 (fun wx => Spr wx g s r2 (out ++ bytesOf (s.extract r2.toNat (r2 + r1 / 2).toNat)) ∧ Below g w wx)
  case first =>
    refine wp_gen2 (fun W => W.heap[g]? = some (.cells #[.string s, .int .i64 r2, v1] 48 (0, 0)) ∧ W.ownsRow (g + 1) 5 1 v1 out.length (out.map (Value.int .u8)) ∧ Below g w W) ⟨HBlk.out, HOwn.out, hB1.trans (pw_below_drewN (Below.refl _ _) _)⟩ ?_
    rintro W5 ⟨b5, o5, hB5⟩
    clear hown1 hblk1 c0 c1 c2
    have c0 := sp0 b5
    have c1 := sp1 b5
    have c2 := sp2 b5
    have f2 := sf b5 2
    have hl63 : out.length + (s.extract r2.toNat (r2 + r1 / 2).toNat).size ≤ maxLen := by unfold maxLen; omega
    have hl48 : out.length + (s.extract r2.toNat (r2 + r1 / 2).toNat).size ≤ 140737488355328 := by omega
    have hlb : g + 1 ≤ W5.drew.heap.size := lt_of_block b5
    have o6 : W5.drew.ownsRow (g + 1) 5 1 v1 out.length (out.map (Value.int .u8)) := o5
    have B5 := Lib.hid b5
    have O5 := Lib.hid o5
    clear b5 o5
    have q1 : r2 ≤ r2 + r1 / 2 := by omega
    have q2 : IntKind.i64.wrap (r1 / 2) = r1 / 2 := IntWalk.i64_in _ (by omega)
    have q3 : IntKind.i64.wrap (r2 + r1 / 2) = r2 + r1 / 2 := IntWalk.i64_in _ (by omega)
    go_region_law (first | (refine step_append_string _ rfl _ _ 30 9 rfl (g + 1) 5 i0 Try.underlying30 Try.underlying9 hi hz0 hzz1 hzz2 v1 out.length _ rfl o6 (s.extract r2.toNat (r2 + r1 / 2).toNat) rfl hl63 hl48 hlb ?_; intro v' w2 hown2 hgrow2; obtain ⟨A', n', c', rfl⟩ := own_shape hown2; have hb2 := (hgrow2.block g hlb (fun e => by have := (o6.lt g e.symm).1; omega)).trans B5.out; have c02 := sp0 hb2; have c12 := sp1 hb2; have c22 := sp2 hb2; have f22 := sf hb2 2))
    all_goals (go_wp2_with (fail))
    all_goals go_meet
    all_goals exact lit_end hb2 hown2 HX.out hB5 hgrow2 o6 (by omega)
  case rest =>
    obtain ⟨hs2, hB2⟩ := hcut
    obtain ⟨v2, hblk2, hown2⟩ := hs2
    have c12 := sp1 hblk2
    have f12 := sf hblk2 1
    go_wp2
    go_ret
    exact ⟨rfl, ⟨v2, spr_set1 hblk2, own_set hown2⟩, hB2.setCell (by show g ≤ g; omega) _⟩
end Go.Proofs.Ytmkoajmldbhnbaa.Hand
