/- squeeze.Compress's closure 'flush', by a contract of its own. -/
import Derived.Test.YtmkoajmldbhnbaaPut
import Derived.OneCell
import Derived.IntWalk
import Derived.Lib.Hide
import Derived.Deep.AppendLies
import Derived.Deep.RegionLaw
namespace Go.Proofs.Ytmkoajmldbhnbaa.Hand
open Go.RowKit Go.Proofs.YtmkoajmldbhnbaaW.PrintWords Go.Proofs.YtmkoajmldbhnbaaW.PrintLast Go.Proofs.YtmkoajmldbhnbaaW.PrintMore
set_option linter.unusedVariables false
set_option linter.unusedSimpArgs false

def flushS (s b : ByteArray) (f t : Nat) : ByteArray := if f < t then octet_Put.g b (2 * ((t : Int) - f)) ++ s.extract f t else b

theorem lt_blk {w : World} {b : Nat} {o : Obj} (h : w.heap[b]? = some o) : b < w.heap.size := lt_of_block h

theorem size_appS (s t : ByteArray) : (s ++ t).size = s.size + t.size := by
  have h : ∀ x : ByteArray, x.size = x.data.size := fun _ => rfl
  rw [h, h, h, ByteArray.data_append, Array.size_append]
theorem putG_size (b : ByteArray) (n : Int) : (octet_Put.g b n).size ≤ b.size + 10 := by
  have h := vnums_length 9 n
  have e : (octet_Put.g b n).size = (bytesOf b ++ vnums 9 n).length := by
    show (strOfNums _).data.size = _
    simp [octet_Put.g, strOfNums]
  rw [e, List.length_append, bytesOf_length]; omega

theorem keepF {s b : ByteArray} {f Bs Bb Bf : Nat} {w w' : World} (hs : w.heap[Bs]? = some (.cells #[.string s] 9 (0, 0))) (hb : w.heap[Bb]? = some (.cells #[.string b] 9 (0, 0))) (hf : w.heap[Bf]? = some (.cells #[.int .i64 f] 3 (0, 0))) (h : Below w.heap.size w w') :
    w'.cell? ⟨Bs, 0, none⟩ = some (.string s) ∧ w'.cell? ⟨Bf, 0, none⟩ = some (.int .i64 f) := by
  have hs1 := (h.block Bs (lt_blk hs)).trans hs
  have hb1 := (h.block Bb (lt_blk hb)).trans hb
  have hf1 := (h.block Bf (lt_blk hf)).trans hf
  exact ⟨cell_of_one hs1, cell_of_one hf1⟩
theorem keepF2 {s b : ByteArray} {f Bs Bb Bf : Nat} {w w' : World} (hs : w.heap[Bs]? = some (.cells #[.string s] 9 (0, 0))) (hb : w.heap[Bb]? = some (.cells #[.string b] 9 (0, 0))) (hf : w.heap[Bf]? = some (.cells #[.int .i64 f] 3 (0, 0))) (h1 : Bs ≠ Bb) (h2 : Bf ≠ Bb) (h : Below w.heap.size w w') (v : Value) :
    (w'.setCell ⟨Bb, 0, none⟩ v).cell? ⟨Bs, 0, none⟩ = some (.string s) ∧ (w'.setCell ⟨Bb, 0, none⟩ v).cell? ⟨Bf, 0, none⟩ = some (.int .i64 f) := by
  have hs1 := (Below.heap_setCell w' ⟨Bb, 0, none⟩ v Bs h1).trans ((h.block Bs (lt_blk hs)).trans hs)
  have hb1 := one_setCell (u := v) ((h.block Bb (lt_blk hb)).trans hb)
  have hf1 := (Below.heap_setCell w' ⟨Bb, 0, none⟩ v Bf h2).trans ((h.block Bf (lt_blk hf)).trans hf)
  exact ⟨cell_of_one hs1, cell_of_one hf1⟩
theorem flush_end {s b : ByteArray} {f t Bs Bb Bf : Nat} {w w1 : World} (hlt : f < t) (hs : w.heap[Bs]? = some (.cells #[.string s] 9 (0, 0))) (hb : w.heap[Bb]? = some (.cells #[.string b] 9 (0, 0))) (hf : w.heap[Bf]? = some (.cells #[.int .i64 f] 3 (0, 0)))
    (h1 : Bs ≠ Bb) (h2 : Bf ≠ Bb) (h3 : Bb < Bf) (h : Below w.heap.size w w1) (e : Ending) (he : e = .returned (.tuple #[])) :
    e = .returned (.tuple #[]) ∧ ((w1.setCell ⟨Bb, 0, none⟩ (.string (octet_Put.g b (2 * ((t : Int) - f)) ++ s.extract f t))).setCell ⟨Bf, 0, none⟩ (.int .i64 t)).heap[Bf]? = some (.cells #[.int .i64 t] 3 (0, 0)) ∧
      ((w1.setCell ⟨Bb, 0, none⟩ (.string (octet_Put.g b (2 * ((t : Int) - f)) ++ s.extract f t))).setCell ⟨Bf, 0, none⟩ (.int .i64 t)).heap[Bb]? = some (.cells #[.string (flushS s b f t)] 9 (0, 0)) ∧
      Kept w ((w1.setCell ⟨Bb, 0, none⟩ (.string (octet_Put.g b (2 * ((t : Int) - f)) ++ s.extract f t))).setCell ⟨Bf, 0, none⟩ (.int .i64 t)) (fun g => g = Bf ∨ g = Bb) ∧
      Below Bb w ((w1.setCell ⟨Bb, 0, none⟩ (.string (octet_Put.g b (2 * ((t : Int) - f)) ++ s.extract f t))).setCell ⟨Bf, 0, none⟩ (.int .i64 t)) := by
  have lB := lt_blk hb
  have hb1 := one_setCell (u := .string (octet_Put.g b (2 * ((t : Int) - f)) ++ s.extract f t)) ((h.block Bb lB).trans hb)
  have hf1 := (Below.heap_setCell w1 ⟨Bb, 0, none⟩ (.string (octet_Put.g b (2 * ((t : Int) - f)) ++ s.extract f t)) Bf h2).trans ((h.block Bf (lt_blk hf)).trans hf)
  refine ⟨he, one_setCell hf1, ?_, ?_, ?_⟩
  · rw [show flushS s b f t = octet_Put.g b (2 * ((t : Int) - f)) ++ s.extract f t by unfold flushS; rw [if_pos hlt]]
    exact (Below.heap_setCell _ _ _ _ (by show Bb ≠ Bf; omega)).trans hb1
  · exact ((Kept.of_below h _).setCell (Or.inl (Or.inr rfl)) _).setCell (Or.inl (Or.inl rfl)) _
  · exact (((h.mono (by omega)).setCell (by show Bb ≤ Bb; omega) _).setCell (by show Bb ≤ Bf; omega) _)
set_option maxHeartbeats 1000000 in
set_option maxRecDepth 100000 in
theorem flush_any (s b : ByteArray) (f t Bs Bb Bf : Nat) (w : World) (hs : w.heap[Bs]? = some (.cells #[.string s] 9 (0, 0))) (hb : w.heap[Bb]? = some (.cells #[.string b] 9 (0, 0))) (hf : w.heap[Bf]? = some (.cells #[.int .i64 f] 3 (0, 0)))
    (hsb : Bs ≠ Bb) (hbf : Bb < Bf) (ht : t ≤ s.size) (hft : f ≤ t) (hz : s.size ≤ 1000000000) (hbz : b.size ≤ 1000000000000) :
    Calls Try.prog 16 #[.int .i64 t, .pointer (some ⟨Bf, 0, none⟩), .pointer (some ⟨Bb, 0, none⟩), .pointer (some ⟨Bs, 0, none⟩)] w fun e w' => e = .returned (.tuple #[]) ∧
      w'.heap[Bf]? = some (.cells #[.int .i64 t] 3 (0, 0)) ∧ w'.heap[Bb]? = some (.cells #[.string (flushS s b f t)] 9 (0, 0)) ∧ Kept w w' (fun g => g = Bf ∨ g = Bb) ∧ Below Bb w w' := by
  have cS := cell_of_one hs
  have cB := cell_of_one hb
  have cF := cell_of_one hf
  have fB := free_of_one hb
  have fF := free_of_one hf
  have lS := lt_blk hs
  have lB := lt_blk hb
  have lF := lt_blk hf
  by_cases hlt : f < t
  · have hlt' : (f : Int) < t := by omega
    have hpz := putG_size b (2 * ((t : Int) - f))
    have hw : IntKind.u64.wrap (IntKind.i64.wrap (2 * IntKind.i64.wrap ((t : Int) - f))) = 2 * ((t : Int) - f) := by
      rw [show IntKind.i64.wrap ((t : Int) - f) = (t : Int) - f from IntWalk.i64_in _ (by omega), show IntKind.i64.wrap (2 * ((t : Int) - f)) = 2 * ((t : Int) - f) from IntWalk.i64_in _ (by omega)]
      simp [IntKind.wrap, IntKind.bits, IntKind.signed]; omega
    have hbz' : b.size ≤ 140737488355000 := by omega
    have hw0 : 0 ≤ IntKind.u64.wrap (IntKind.i64.wrap (2 * IntKind.i64.wrap ((t : Int) - f))) := by rw [hw]; omega
    have hw1 : IntKind.u64.wrap (IntKind.i64.wrap (2 * IntKind.i64.wrap ((t : Int) - f))) < 2 * 128 ^ 9 := by rw [hw]; simp; omega
    have hxz : (s.extract f t).size ≤ s.size := by rw [ByteArray.size_extract]; omega
    have hcat : (octet_Put.g b (IntKind.u64.wrap (IntKind.i64.wrap (2 * IntKind.i64.wrap ((t : Int) - f))))).size + (s.extract f t).size ≤ 9223372036854775807 := by rw [hw]; omega
    have hxe : (s.extract f t).size = t - f := by rw [ByteArray.size_extract]; omega
    have hcat2 := hcat
    rw [hxe] at hcat2
    have hcat3 : (9223372036854775807 < (octet_Put.g b (IntKind.u64.wrap (IntKind.i64.wrap (2 * IntKind.i64.wrap ((t : Int) - f))))).size + (t - f)) = False := eq_false (Nat.not_lt.2 hcat2)
    clear hcat hcat2 hxe
    have HW := Lib.hid hw
    clear hw
    go_enter Try.func16, Try.ntmps16
    go_wp2
    have cBd : w.drew.cell? ⟨Bb, 0, none⟩ = some (.string b) := cB
    have hbf' : Bf ≠ Bb := by omega
    go_region_law (first | (go_simp; go_at_call 15; refine (put_any b (IntKind.u64.wrap (IntKind.i64.wrap (2 * IntKind.i64.wrap ((t : Int) - f)))) _ hbz' hw0 hw1).mono ?_; rintro e w1 ⟨rfl, hB1⟩; have hB2 : Below w.heap.size w w1 := (below_drew1 (Below.refl _ _)).trans hB1; have hb1 := (hB2.block Bb lB).trans hb; have cB1 := cell_of_one hb1; have fB1 := free_of_one hb1; have hs1 := (hB2.block Bs lS).trans hs; have hf1 := (hB2.block Bf lF).trans hf; have cS1 := cell_of_one hs1; have cF1 := cell_of_one hf1; have fF1 := free_of_one hf1))
    all_goals (try go_wp2)
    all_goals go_end0
    all_goals exact flush_end hlt hs hb hf hsb hbf' hbf hB2 _ rfl
  · obtain rfl : t = f := by omega
    go_enter Try.func16, Try.ntmps16
    go_wp2
    go_end0
    refine ⟨rfl, one_setCell hf, ?_, ?_, ?_⟩
    · rw [show flushS s b t t = b by unfold flushS; rw [if_neg (by omega)]]
      exact (Below.heap_setCell _ _ _ _ (by show Bb ≠ Bf; omega)).trans hb
    · exact (Kept.refl w _).setCell (Or.inl (Or.inl rfl)) _
    · exact (Below.refl Bb w).setCell (by show Bb ≤ Bf; omega) _
end Go.Proofs.Ytmkoajmldbhnbaa.Hand
