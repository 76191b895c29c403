/- The reference's Flip: bits turned in a string's bytes. -/
import Derived.Test.YtddnamlkembflaaBuf
import Derived.Lib.Hide
namespace Go.Proofs.Ytddnamlkembflaa.Hand
open Go.RowKit Go.Proofs.YtddnamlkembflaaW.PrintWords Go.Proofs.YtddnamlkembflaaW.PrintLast Go.Proofs.YtddnamlkembflaaW.PrintMore
set_option linter.unusedVariables false
set_option linter.unusedSimpArgs false

def flipOne (l : List Int) (i : Int) (c : Bool) : List Int := if c = true ∧ i / 8 < (l.length : Int) then l.set (i / 8).toNat (Go.bits .xor .u8 (l.getD (i / 8).toNat 0) (2 ^ (i % 8).toNat % 256)) else l
def flipN (a m : Int) (l : List Int) : Nat → List Int
  | 0 => l
  | k + 1 => flipOne (flipN a m l k) (a + k) ((m / 2 ^ k).tmod 2 == 1)

theorem flipOne_length (l : List Int) (i : Int) (c : Bool) : (flipOne l i c).length = l.length := by unfold flipOne; split <;> simp
theorem flipN_length (a m : Int) (l : List Int) (k : Nat) : (flipN a m l k).length = l.length := by
  induction k with
  | zero => rfl
  | succ k ih => rw [flipN, flipOne_length, ih]

/-- A store into the row. -/
theorem Buf.store {w : World} {B : Nat} {e : TypeId} {g cap n : Nat} {xs : List Int} (h : Buf w B e (.slice (some ⟨g, 0, none⟩) n cap) xs) (j : Nat) (hj : j < xs.length) (x : Int) :
    Buf (w.setCell ⟨g, j, none⟩ (.int .u8 x)) B e (.slice (some ⟨g, 0, none⟩) n cap) (xs.set j x) := by
  obtain ⟨g', cap', cur, fr, he, hb, hg, hn, hc, hs, hf, ht⟩ := h
  simp only [Value.slice.injEq, Option.some.injEq, Addr.mk.injEq, and_true] at he
  obtain ⟨rfl, rfl, rfl⟩ := he
  refine ⟨g, cap, cur.setIfInBounds j (.int .u8 x), fr, by simp, hb, ?_, by simpa using hn, hc, by simpa using hs, hf, ?_⟩
  · simp [World.setCell, Array.getElem?_modify, hg]
  · rw [List.length_set]
    have e1 : (cur.setIfInBounds j (.int .u8 x)).toList = cur.toList.set j (.int .u8 x) := by simp
    rw [e1, List.take_set, ht]
    simp [nums]
theorem Buf.form {w : World} {B : Nat} {e : TypeId} {v : Value} {xs : List Int} (h : Buf w B e v xs) : ∃ g cap, v = .slice (some ⟨g, 0, none⟩) xs.length cap ∧ B ≤ g ∧ g < w.heap.size := by
  have h' := h
  obtain ⟨g, cap, cur, fr, rfl, hb, r⟩ := h
  exact ⟨g, cap, rfl, hb, (h'.lt g rfl).2⟩
theorem Buf.unfrozen {w : World} {B : Nat} {e : TypeId} {g cap n : Nat} {xs : List Int} (h : Buf w B e (.slice (some ⟨g, 0, none⟩) n cap) xs) (j : Nat) (hj : j < xs.length) : w.frozen? ⟨g, j, none⟩ = false := by
  obtain ⟨g', cap', cur, fr, he, hb, hg, hn, hc, hs, hf, ht⟩ := h
  simp only [Value.slice.injEq, Option.some.injEq, Addr.mk.injEq, and_true] at he
  obtain ⟨rfl, rfl, rfl⟩ := he
  have := hf j (by omega)
  simpa [World.frozen?, hg] using this

def FlipRel (w : World) (s : ByteArray) (a m : Int) (kv : Value) (wr : World) : Prop :=
  ∃ (k : Nat) (xs : List Int), kv = .int .i64 k ∧ k ≤ 32 ∧ Buf wr w.heap.size 5 (.slice (some ⟨w.heap.size, 0, none⟩) s.size (grownCap w s.size 0 5)) xs ∧ xs = flipN a m (bytesOf s) k ∧ Below w.heap.size w wr

theorem FlipRel.yes {w wr : World} {s : ByteArray} {a m : Int} {k : Nat} {xs : List Int} (hk : k < 32) (hB : (a + k) / 8 < (s.size : Int)) (hA : ((m / 2 ^ k).tmod 2 == 1) = true) (hj : ((a + (k : Int)) / 8).toNat < xs.length)
    (hbuf : Buf wr w.heap.size 5 (.slice (some ⟨w.heap.size, 0, none⟩) s.size (grownCap w s.size 0 5)) xs) (hxs : xs = flipN a m (bytesOf s) k) (hl : xs.length = s.size) (hbel : Below w.heap.size w wr) :
    FlipRel w s a m (.int .i64 (↑k + 1)) (wr.setCell ⟨w.heap.size, ((a + ↑k) / 8).toNat, none⟩ (.int .u8 (Go.bits .xor .u8 xs[((a + (k : Int)) / 8).toNat] (2 ^ ((a + ↑k) % 8).toNat % 256)))).drew := by
  refine ⟨k + 1, xs.set ((a + (k : Int)) / 8).toNat (Go.bits .xor .u8 xs[((a + (k : Int)) / 8).toNat] (2 ^ ((a + ↑k) % 8).toNat % 256)), by simp, by omega, (hbuf.store _ hj _).drew, ?_, (hbel.setCell (Nat.le_refl _) _).drew⟩
  rw [flipN, ← hxs, flipOne, if_pos ⟨hA, by omega⟩, List.getD_eq_getElem?_getD, List.getElem?_eq_getElem hj]
  rfl
theorem FlipRel.no {w wr : World} {s : ByteArray} {a m : Int} {k : Nat} {xs : List Int} (hk : k < 32) (hc : ¬ (((m / 2 ^ k).tmod 2 == 1) = true ∧ (a + k) / 8 < (s.size : Int)))
    (hbuf : Buf wr w.heap.size 5 (.slice (some ⟨w.heap.size, 0, none⟩) s.size (grownCap w s.size 0 5)) xs) (hxs : xs = flipN a m (bytesOf s) k) (hl : xs.length = s.size) (hbel : Below w.heap.size w wr) :
    FlipRel w s a m (.int .i64 (↑k + 1)) wr := by
  refine ⟨k + 1, xs, by simp, by omega, hbuf, ?_, hbel⟩
  rw [flipN, ← hxs, flipOne, if_neg (by rw [hl]; exact hc)]

set_option maxHeartbeats 1000000 in
set_option maxRecDepth 100000 in
theorem flip_any (s : ByteArray) (a m : Int) (w : World) (hs : s.size ≤ 140737488355000) (a0 : 0 ≤ a) (a1 : a ≤ 1099511627776) (m0 : 0 ≤ m) (m1 : m < 4294967296) :
    Calls Try.prog 26 #[.string s, .int .i64 a, .int .u32 m] w fun e w' => e = .returned (.string (strOfNums (flipN a m (bytesOf s) 32))) ∧ Below w.heap.size w w' := by
  have kb := fun W => print_bytes (P := Try.prog) 9 47 5 Try.underlying9 Try.underlying47 Try.underlying5 s W
  have hstart : FlipRel w s a m (.int .i64 0) (Lib.bytesWorld w 5 s) :=
    ⟨0, _, rfl, by omega, Buf.made w w.heap.size 5 s (Nat.le_refl _) (by simp only [maxLen]; omega), rfl, bytes_below (Below.refl _ _) (Nat.le_refl _) _ _⟩
  have HS := Lib.hid hstart
  clear hstart
  go_enter Try.func26, Try.ntmps26
  go_wp2
  go_loopw [8] (fun kv wr => FlipRel w s a m kv wr) (fun kv _ => 32 - (intOf kv).toNat)
  case atStart => exact HS.out
  case round =>
    obtain ⟨k, xs, rfl, hk, hbuf, hxs, hbel⟩ := hrel
    have hz := hbel.size
    have hlen : xs.length = s.size := by rw [hxs, flipN_length, bytesOf_length]
    have HX := Lib.hid hxs
    clear hxs HS
    have hlt0 := (hbuf.lt w.heap.size rfl).2
    have hlq : xs.length ≤ s.size ∧ s.size ≤ xs.length := by omega
    have HL := Lib.hid hlen
    clear hlen
    by_cases hlt : k < 32
    · by_cases hA : ((m / 2 ^ k).tmod 2 == 1) = true
      · by_cases hB : (a + k) / 8 < (s.size : Int)
        · have hB' : decide ((a + k) / 8 < (s.size : Int)) = true := decide_eq_true hB
          have hj : ((a + (k : Int)) / 8).toNat < xs.length := by have := HL.out; omega
          have hcell := hbuf.cell ((a + (k : Int)) / 8).toNat hj
          have hfro := hbuf.unfrozen ((a + (k : Int)) / 8).toNat hj
          have h8 : 0 ≤ (a + (k : Int)) / 8 := by omega
          go_wp2
          go_region
          all_goals go_wp2
          go_roundw
          case rel => exact FlipRel.yes hlt hB hA hj hbuf HX.out HL.out hbel
          case measure => simp [intOf]; omega
        · have hB' : decide ((a + k) / 8 < (s.size : Int)) = false := decide_eq_false hB
          go_wp2
          go_roundw
          case rel => exact FlipRel.no hlt (fun h => hB h.2) hbuf HX.out HL.out hbel
          case measure => simp [intOf]; omega
      · replace hA := Bool.eq_false_iff.mpr hA
        go_wp2
        go_roundw
        case rel => exact FlipRel.no hlt (fun h => by rw [hA] at h; exact absurd h.1 (by decide)) hbuf HX.out HL.out hbel
        case measure => simp [intOf]; omega
    · have hcs := Buf.string (P := Try.prog) (src := 47) (dst := 9) Try.underlying47 Try.underlying5 Try.underlying9 hbuf
      obtain rfl : k = 32 := by omega
      have hfin : Ending.returned (.string (strOfNums xs)) = Ending.returned (.string (strOfNums (flipN a m (bytesOf s) 32))) := by rw [← HX.out]
      have HF := Lib.hid hfin
      clear hfin
      go_wp2
      go_ret
      exact ⟨HF.out, hbel⟩

def graftageref01_Flip.f (a0 : ByteArray) (a1 : Int) (a2 : Int) : Option ByteArray := if a0.size ≤ 140737488355000 then (if 0 ≤ a1 then (if a1 ≤ 1099511627776 then (if 0 ≤ a2 then (if a2 < 4294967296 then some (strOfNums (flipN a1 a2 (bytesOf a0) 32)) else none) else none) else none) else none) else none
theorem graftageref01_Flip.calls (a0 : ByteArray) (a1 : Int) (a2 : Int) (r : ByteArray) (w : World) (h : graftageref01_Flip.f a0 a1 a2 = some r) :
    Calls Try.prog 26 #[.string a0, .int .i64 a1, .int .u32 a2] w fun e w' => e = .returned (.string r) ∧ Below w.heap.size w w' := by
  unfold graftageref01_Flip.f at h
  split at h
  · split at h
    · split at h
      · split at h
        · split at h
          · simp only [Option.some.injEq] at h
            subst h
            exact flip_any a0 a1 a2 w (by assumption) (by assumption) (by assumption) (by assumption) (by assumption)
          · cases h
        · cases h
      · cases h
    · cases h
  · cases h

end Go.Proofs.Ytddnamlkembflaa.Hand
