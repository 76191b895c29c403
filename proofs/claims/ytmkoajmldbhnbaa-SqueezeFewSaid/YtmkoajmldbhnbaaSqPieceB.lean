/- (*spread).piece: the copying loop. -/
import Derived.Test.YtmkoajmldbhnbaaSqSpread
import Derived.Maps.AppendAt
namespace Go.Proofs.Ytmkoajmldbhnbaa.Hand
open Go.RowKit Go.Proofs.YtmkoajmldbhnbaaW.PrintWords Go.Proofs.YtmkoajmldbhnbaaW.PrintLast Go.Proofs.YtmkoajmldbhnbaaW.PrintMore
open Go.Proofs.Ytmkoajmldbhnbaa.PSqA
set_option linter.unusedVariables false
set_option linter.unusedSimpArgs false
theorem own_shape2 {w : World} {base e : Nat} {v : Value} {n : Nat} {xs : List Value} (h : w.ownsRow base e 1 v n xs) : ∃ A c, v = .slice A n c := by
  rcases h.2 with ⟨rfl, h0⟩ | ⟨g, cap, cur, rfl, _⟩
  · exact ⟨none, 0, by rw [h0]⟩
  · exact ⟨_, _, rfl⟩
theorem copy_end {w W5 w4 : World} {g : Nat} {s : ByteArray} {p z : Int} {xs : List Int} {v v' u : Value} (hb : w4.heap[g]? = some (.cells #[.string s, .int .i64 p, u] 48 (0, 0))) (ho : w4.ownsRow (g + 1) 5 1 v' (xs.length + 1) (xs.map (Value.int .u8) ++ [.int .u8 z])) (hB : Below g w W5)
    (hg : (W5.alloc (.cells #[.int .u8 z] 5)).drew.grownBy w4 v.ownBlock) (o6 : (W5.alloc (.cells #[.int .u8 z] 5)).drew.ownsRow (g + 1) 5 1 v xs.length (xs.map (Value.int .u8))) (hgl : g < W5.heap.size) :
    Spr (w4.setCell ⟨g, 2, none⟩ v') g s p (xs ++ [z]) ∧ Below g w (w4.setCell ⟨g, 2, none⟩ v') := by
  have hsz : (W5.alloc (.cells #[.int .u8 z] 5)).drew.heap.size = W5.heap.size + 1 := by
    show (W5.alloc (.cells #[.int .u8 z] 5)).heap.size = W5.heap.size + 1
    simp
  refine ⟨⟨v', spr_set2 hb, own_set ?_⟩, ?_⟩
  · simpa using ho
  · have h1 : Below g w (W5.alloc (.cells #[.int .u8 z] 5)).drew := below_drew1 (hB.alloc (by omega) _)
    have h2 : Below g (W5.alloc (.cells #[.int .u8 z] 5)).drew w4 := ⟨hg.os, hg.tape, hg.output, hg.size, fun k hk => hg.block k (by omega) (fun e => by have := (o6.lt k e.symm).1; omega)⟩
    exact (h1.trans h2).setCell (by show g ≤ g; omega) _
def CopyRel (w : World) (g : Nat) (s : ByteArray) (p : Int) (out : List Int) (b n : Nat) (iv : Value) (wr : World) : Prop :=
  ∃ i : Nat, iv = .int .u64 i ∧ i ≤ n ∧ Spr wr g s p (copyN out b i) ∧ Below g w wr
set_option maxHeartbeats 4000000 in
set_option maxRecDepth 100000 in
theorem piece_copy (g : Nat) (s : ByteArray) (left : Int) (out : List Int) (r1 r2 r3 q1 q2 q3 : Int) (w : World) (hz : s.size ≤ 1000000000) (hl0 : 0 ≤ left) (hl1 : left ≤ 1000000000) (hlen : out.length ≤ 1000000000) (hu : IntKind.u64.wrap left = left)
    (h10 : 0 ≤ r1) (h11 : r1 < 18446744073709551616) (h20 : 0 ≤ q1) (h21 : q1 < 18446744073709551616)
    (arm1 : Calls Try.prog 21 #[.pointer (some ⟨g, 0, none⟩)] w fun e w' => e = .returned (.tuple #[.int .u64 r1, .int .i64 r3]) ∧ Spr w' g s r2 out ∧ Below g w w')
    (arm2 : ∀ w1, Spr w1 g s r2 out → Calls Try.prog 21 #[.pointer (some ⟨g, 0, none⟩)] w1 fun e w' => e = .returned (.tuple #[.int .u64 q1, .int .i64 q3]) ∧ Spr w' g s q2 out ∧ Below g w1 w')
    (hb1 : (r3 != 0) = false) (hb2 : (q3 != 0) = false) (a1d : decide (r1 / 2 < 1) = false) (a2d : decide (r1 / 2 < 4) = false) (a3d : decide (r1 / 2 > left) = false) (a1 : ¬ r1 / 2 < 1) (a2 : ¬ r1 / 2 < 4) (a3 : ¬ r1 / 2 > left) (ag : (r1 % 2 == 1) = true)
    (b1d : decide (q1 < 1) = false) (b2d : decide (q1 > (out.length : Int)) = false) (b1 : ¬ q1 < 1) (b2 : ¬ q1 > out.length) :
    Calls Try.prog 22 #[.pointer (some ⟨g, 0, none⟩), .int .i64 left] w fun e w' => e = .returned (.int .i64 0) ∧ Spr w' g s q2 (copyN out q1.toNat (r1 / 2).toNat) ∧ Below g w w' := by
  have tok1 : True := trivial
  go_enter Try.func22, Try.ntmps22
  go_wp2_with (first
    | (go_at_call 21; have _t := tok1; refine arm1.mono ?_; rintro e w1 ⟨rfl, hs1, hB1⟩; clear tok1)
    | (go_at_call 21; refine (arm2 _ hs1).mono ?_; rintro e w2 ⟨rfl, hs2, hB2⟩; have hs2' := hs2; obtain ⟨v2, hblk2, hown2⟩ := hs2'; obtain ⟨A2, k2, rfl⟩ := own_shape2 hown2; have c2 := sp2 hblk2))
  go_loopw [107] (fun iv wr => CopyRel w g s q2 out q1.toNat (r1 / 2).toNat iv wr) (fun iv _ => (r1 / 2).toNat - (intOf iv).toNat)
  case atStart => exact ⟨0, rfl, Nat.zero_le _, hs2, hB1.trans hB2⟩
  case round =>
    obtain ⟨i, rfl, hi, hs3, hB3⟩ := hrel
    by_cases hlt : i < (r1 / 2).toNat
    · have hlt' : (i : Int) < r1 / 2 := by omega
      obtain ⟨v3, hblk3, hown3⟩ := hs3
      have hcl := copyN_length out q1.toNat i
      rcases hown3.2 with ⟨rfl, hnil⟩ | ⟨g3, cap3, cur3, rfl, hg3⟩
      · omega
      have hidx : (copyN out q1.toNat i).length - q1.toNat < (copyN out q1.toNat i).length := by omega
      have hce := hown3.cellAt ((copyN out q1.toNat i).length - q1.toNat) (by omega)
      rw [List.getElem?_map, List.getElem?_eq_getElem hidx] at hce
      have hzd : (copyN out q1.toNat i)[(copyN out q1.toNat i).length - q1.toNat] = (copyN out q1.toNat i).getD ((copyN out q1.toNat i).length - q1.toNat) 0 := by rw [List.getD_eq_getElem?_getD, List.getElem?_eq_getElem hidx]; rfl
      rw [hzd] at hce
      have hcn : copyN out q1.toNat (i + 1) = copyN out q1.toNat i ++ [(copyN out q1.toNat i).getD ((copyN out q1.toNat i).length - q1.toNat) 0] := rfl
      generalize (copyN out q1.toNat i).getD ((copyN out q1.toNat i).length - q1.toNat) 0 = z at hce hcn
      generalize hxs : copyN out q1.toNat i = xs at *
      have HCN := Lib.hid hcn
      have HXS := Lib.hid hxs
      have hL : (xs.length : Int) - q1 = ((xs.length - q1.toNat : Nat) : Int) := by omega
      obtain ⟨i0, hi0, hz0, hz1, hz2⟩ := info_parts infoU8
      have HH3 := Lib.hid hown3
      have HB3 := Lib.hid hblk3
      have hxl : xs.length ≤ 2000000000 := by omega
      have hqx : q1 ≤ (xs.length : Int) := by omega
      clear hown3 hblk3 hcn hxs hzd hg3 hcl
      go_upto_block 1 with (fail)
      go_cut [] from 109 to 131 (fun wx => Spr wx g s q2 (xs ++ [z]) ∧ Below g w wx)
      case first =>
        go_upto_region 20 with (fail)
        refine wp_gen2 (fun W => W.heap[g]? = some (.cells #[.string s, .int .i64 q2, .slice (some ⟨g3, 0, none⟩) xs.length cap3] 48 (0, 0)) ∧ W.ownsRow (g + 1) 5 1 (.slice (some ⟨g3, 0, none⟩) xs.length cap3) xs.length (xs.map (Value.int .u8)) ∧ Below g w W ∧ W.cell? ⟨g3, xs.length - q1.toNat, none⟩ = some (.int .u8 z)) ⟨HB3.out, HH3.out, hB3, hce⟩ ?_
        rintro W5 ⟨b5, o5, hB5, ce5⟩
        clear hce
        have c25 := sp2 b5
        have hgl : g < W5.heap.size := lt_of_block b5
        have b5a : (W5.alloc (.cells #[.int .u8 z] 5)).heap[g]? = some (.cells #[.string s, .int .i64 q2, .slice (some ⟨g3, 0, none⟩) xs.length cap3] 48 (0, 0)) := (Below.heap_alloc _ _ _ hgl).trans b5
        have c25a := sp2 b5a
        have f25a := sf b5a 2
        have o6 : (W5.alloc (.cells #[.int .u8 z] 5)).drew.ownsRow (g + 1) 5 1 (.slice (some ⟨g3, 0, none⟩) xs.length cap3) xs.length (xs.map (Value.int .u8)) := o5.alloc _
        have hgl2 : g + 1 ≤ (W5.alloc (.cells #[.int .u8 z] 5)).drew.heap.size := by
          have : (W5.alloc (.cells #[.int .u8 z] 5)).heap.size = W5.heap.size + 1 := by simp
          show g + 1 ≤ (W5.alloc (.cells #[.int .u8 z] 5)).heap.size
          omega
        have dpos : 0 < 1 := by decide
        have b63 : xs.length + 1 ≤ maxLen := by unfold maxLen; omega
        have b8 : (xs.length + 1) * 1 ≤ 140737488355328 := by omega
        have hq64 : IntKind.i64.wrap q1 = q1 := IntWalk.i64_in _ (by omega)
        have hix0 : 0 ≤ (xs.length : Int) - q1 := by omega
        have hix1 : (xs.length : Int) - q1 < xs.length := by omega
        have hixn : ((xs.length : Int) - q1).toNat = xs.length - q1.toNat := by omega
        have hq65 : IntKind.i64.wrap ((xs.length : Int) - q1) = (xs.length : Int) - q1 := IntWalk.i64_in _ (by omega)
        have ce5' : W5.cell? ⟨g3, ((xs.length : Int) - q1).toNat, none⟩ = some (.int .u8 z) := by rw [hixn]; exact ce5
        have B5A := Lib.hid b5a
        have O6 := Lib.hid o6
        clear b5 o5 b5a hL
        go_region_law (first | (refine step_append_lies _ rfl _ _ 30 rfl (g + 1) 5 i0 (.int .u8 0) 1 1 Try.underlying30 hi0 hz0 hz1 hz2 rfl dpos _ xs.length _ rfl o6 ⟨W5.heap.size, 0, none⟩ 1 1 [.int .u8 z] rfl rfl (cell_one_new _ _ _) (ints_oneCell .u8 [z]) dpos b63 b8 hgl2 _ rfl ?_; intro g' cap' w4 hown4 hgrow4 hloc4 hlt4; have hb4 := (hgrow4.block g hgl2 (fun e => by have := (O6.out.lt g e.symm).1; omega)).trans B5A.out; have c24 := sp2 hb4; have f24 := sf hb4 2))
        all_goals (go_wp2_with (fail))
        all_goals go_meet
        all_goals exact copy_end hb4 hown4 hB5 hgrow4 O6.out hgl
      case rest =>
        obtain ⟨hs4, hB4⟩ := hcut
        go_wp2
        go_roundw
        case rel => exact ⟨i + 1, by simp, by omega, by rw [HCN.out]; exact hs4, hB4⟩
        case measure => simp [intOf]; omega
    · have hnlt : ¬ ((i : Int) < r1 / 2) := by omega
      have hnd : decide ((i : Int) < r1 / 2) = false := decide_eq_false hnlt
      obtain rfl : i = (r1 / 2).toNat := by omega
      go_wp2
      go_ret
      exact ⟨rfl, hs3, hB3⟩
end Go.Proofs.Ytmkoajmldbhnbaa.Hand
