/- octet.Put: b's bytes, and behind them the number's bytes, seven bits each. -/
import Derived.Test.YtggjkijgbpnhiaaBuf
import Derived.Lib.Hide
namespace Go.Proofs.Ytggjkijgbpnhiaa.Hand
open Go.RowKit Go.Proofs.YtggjkijgbpnhiaaW.PrintWords Go.Proofs.YtggjkijgbpnhiaaW.PrintLast Go.Proofs.YtggjkijgbpnhiaaW.PrintMore
set_option linter.unusedVariables false
set_option linter.unusedSimpArgs false

/-- The number's bytes, as the code makes them. -/
def vnums : Nat → Int → List Int
  | 0, n => [n % 256]
  | k + 1, n => if n < 128 then [n % 256] else Go.bits .or .u8 (n % 256) 128 :: vnums k (n / 128)

theorem vnums_length (k : Nat) : ∀ n, (vnums k n).length ≤ k + 1 := by
  induction k with
  | zero => intro n; simp [vnums]
  | succ k ih => intro n; unfold vnums; split <;> simp <;> have := ih (n / 128) <;> omega

def PutRel (w : World) (b : ByteArray) (n0 : Int) (v nv : Value) (wr : World) : Prop :=
  ∃ (pre : List Int) (k : Nat) (n : Int), nv = .int .u64 n ∧ Buf wr w.heap.size 5 v (bytesOf b ++ pre) ∧ pre ++ vnums k n = vnums 9 n0 ∧ 0 ≤ n ∧ n < 2 * 128 ^ k ∧ Below w.heap.size w wr ∧ pre.length + k = 9

theorem vnums_lt (k : Nat) (n : Int) (h : n < 128) (h0 : 0 ≤ n) : vnums k n = [n % 256] := by
  cases k with
  | zero => rfl
  | succ k => rw [vnums, if_pos h]
theorem vnums_ge (k : Nat) (n : Int) (h : 128 ≤ n) : vnums (k + 1) n = Go.bits .or .u8 (n % 256) 128 :: vnums k (n / 128) := by
  rw [vnums, if_neg (by omega)]

/-- One round. -/
theorem PutRel.step {w : World} {b : ByteArray} {n0 : Int} {pre : List Int} {k : Nat} {n : Int} {v' : Value} {w' : World} (h : pre ++ vnums k n = vnums 9 n0) (h0 : 0 ≤ n) (hn : n < 2 * 128 ^ k) (hl : pre.length + k = 9) (hge : 128 ≤ n)
    (hb : Buf w' w.heap.size 5 v' (bytesOf b ++ pre ++ [Go.bits .or .u8 (n % 256) 128])) (hB : Below w.heap.size w w') : PutRel w b n0 v' (.int .u64 (n / 128)) w' := by
  cases k with
  | zero => simp at hn; omega
  | succ k =>
    rw [vnums_ge k n hge] at h
    refine ⟨pre ++ [Go.bits .or .u8 (n % 256) 128], k, n / 128, rfl, by simpa [List.append_assoc] using hb, by simpa using h, by omega, ?_, hB, by simp; omega⟩
    rw [Int.pow_succ] at hn
    omega

def octet_Put.g (a0 : ByteArray) (a1 : Int) : ByteArray := strOfNums (bytesOf a0 ++ vnums 9 a1)

theorem PutRel.last {w : World} {b : ByteArray} {n0 : Int} {pre : List Int} {k : Nat} {n : Int} {v' : Value} {w' : World} (h : pre ++ vnums k n = vnums 9 n0) (h0 : 0 ≤ n) (hlt : n < 128)
    (hb : Buf w' w.heap.size 5 v' (bytesOf b ++ pre ++ [n])) : strOfNums (bytesOf b ++ pre ++ [n]) = octet_Put.g b n0 := by
  rw [vnums_lt k n hlt h0, show n % 256 = n by omega] at h
  rw [octet_Put.g, ← h, List.append_assoc]

theorem info5 : (Try.prog.info? 5).map (fun i => (i.zero, i.size, i.bytes)) = some (some (.int .u8 0), 1, 1) := by kernel_rfl

set_option maxHeartbeats 1000000 in
set_option maxRecDepth 100000 in
theorem put_any (b : ByteArray) (n0 : Int) (w : World) (hb : b.size ≤ 140737488355000) (h0 : 0 ≤ n0) (h1 : n0 < 2 * 128 ^ 9) :
    Calls Try.prog 21 #[.string b, .int .u64 n0] w fun e w' => e = .returned (.string (octet_Put.g b n0)) ∧ Below w.heap.size w w' := by
  have kb := fun W => print_bytes (P := Try.prog) 9 35 5 Try.underlying9 Try.underlying35 Try.underlying5 b W
  have hstart : PutRel w b n0 (.slice (some ⟨w.heap.size, 0, none⟩) b.size (grownCap w b.size 0 5)) (.int .u64 n0) (Lib.bytesWorld w 5 b) :=
    ⟨[], 9, n0, rfl, by simpa using Buf.made w w.heap.size 5 b (Nat.le_refl _) (by simp only [maxLen]; omega), by simp, h0, h1, bytes_below (Below.refl _ _) (Nat.le_refl _) _ _, rfl⟩
  have HS := Lib.hid hstart
  clear hstart h0 h1
  go_enter Try.func21, Try.ntmps21
  go_wp2
  go_loopw [5, 1] (fun v nv wr => PutRel w b n0 v nv wr) (fun _ nv _ => (intOf nv).toNat)
  case atStart => exact HS.out
  case round =>
    obtain ⟨pre, k, n, rfl, hbuf, hpre, hn0, hn, hbel, hlen⟩ := hrel
    have hz := hbel.size
    have HP := Lib.hid hpre
    have HN := Lib.hid hn
    have HL := Lib.hid hlen
    clear hpre hn hlen HS
    by_cases hge : 128 ≤ n
    · have hlen' : (bytesOf b ++ pre).length + 1 ≤ 140737488355328 := by rw [List.length_append, bytesOf_length]; have := HL.out; omega
      go_wp2_with (at_builtin; refine wpList_append_buf _ rfl _ _ 35 rfl 5 Try.underlying35 info5 w.heap.size _ _ rfl (hbuf.alloc _) (by simp; omega) ⟨wr.heap.size, 0, none⟩ 1 (Go.bits .or .u8 (n % 256) 128) rfl (by simp) hlen' ?_; intro v' w1 hb1 hB1)
      go_roundw
      case rel => exact PutRel.step HP.out hn0 HN.out HL.out hge hb1 ((hbel.alloc hz _).trans hB1)
      case measure => simp [intOf]; omega
    · have hlen' : (bytesOf b ++ pre).length + 1 ≤ 140737488355328 := by rw [List.length_append, bytesOf_length]; have := HL.out; omega
      go_wp2_with (at_builtin; refine wpList_append_buf _ rfl _ _ 35 rfl 5 Try.underlying35 info5 w.heap.size _ _ rfl (hbuf.alloc _) (by simp; omega) ⟨wr.heap.size, 0, none⟩ 1 n rfl (by simp) hlen' ?_; intro v' w1 hb1 hB1; have hcs := Buf.string (P := Try.prog) (src := 35) (dst := 9) Try.underlying35 Try.underlying5 Try.underlying9 hb1)
      go_ret
      have hfin := PutRel.last HP.out hn0 (by omega) hb1
      rw [List.append_assoc] at hfin
      exact ⟨congrArg (fun s => Ending.returned (.string s)) hfin, (hbel.alloc hz _).trans hB1⟩

/-- The same, as a function that may fail. -/
def octet_Put.f (a0 : ByteArray) (a1 : Int) : Option ByteArray := if a0.size ≤ 140737488355000 then (if 0 ≤ a1 then (if a1 < 18446744073709551616 then some (octet_Put.g a0 a1) else none) else none) else none

theorem octet_Put.calls (a0 : ByteArray) (a1 : Int) (r : ByteArray) (w : World) (h : octet_Put.f a0 a1 = some r) :
    Calls Try.prog 21 #[.string a0, .int .u64 a1] w fun e w' => e = .returned (.string r) ∧ Below w.heap.size w w' := by
  unfold octet_Put.f at h
  split at h
  · split at h
    · split at h
      · simp only [Option.some.injEq] at h
        subst h
        exact put_any a0 a1 w (by assumption) (by assumption) (by simp; omega)
      · cases h
    · cases h
  · cases h

end Go.Proofs.Ytggjkijgbpnhiaa.Hand
