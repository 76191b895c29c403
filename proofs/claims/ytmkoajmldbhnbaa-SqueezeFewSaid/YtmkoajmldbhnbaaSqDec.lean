/- squeeze.Decompress, by hand: the loop over pieces. -/
import Derived.Test.YtmkoajmldbhnbaaSqPiece
namespace Go.Proofs.Ytmkoajmldbhnbaa.Hand
open Go.RowKit Go.Proofs.YtmkoajmldbhnbaaW.PrintWords Go.Proofs.YtmkoajmldbhnbaaW.PrintLast Go.Proofs.YtmkoajmldbhnbaaW.PrintMore
open Go.Proofs.Ytmkoajmldbhnbaa.PSqA
set_option linter.unusedVariables false
set_option linter.unusedSimpArgs false

theorem pieceT_ok (T : Int → Int × Int × Int) (s : ByteArray) (p : Int) (out : List Int) (left : Int) (hp0 : 0 ≤ p) (hp1 : p ≤ s.size)
    (hR : ∀ q : Int, 0 ≤ q → (T q).2.2 = 0 → q < (T q).2.1 ∧ (T q).2.1 ≤ s.size ∧ 0 ≤ (T q).1 ∧ (T q).1 < 18446744073709551616) (h : (pieceT T s p out left).1 = 0) :
    0 ≤ (pieceT T s p out left).2.1 ∧ (pieceT T s p out left).2.1 ≤ s.size ∧ out.length < (pieceT T s p out left).2.2.length ∧ ((pieceT T s p out left).2.2.length : Int) ≤ out.length + left := by
  unfold pieceT at h ⊢
  by_cases c1 : (T p).2.2 = 0
  · rw [if_pos c1] at h ⊢
    obtain ⟨a1, a2, a3, a4⟩ := hR p hp0 c1
    by_cases c2 : (T p).1 / 2 < 1 ∨ ((T p).1 % 2 = 1 ∧ (T p).1 / 2 < 4) ∨ (T p).1 / 2 > left
    · rw [if_pos c2] at h; exact absurd (show (_ : Int) = 0 from h) (by simp)
    rw [if_neg c2] at h ⊢
    by_cases c3 : (T p).1 % 2 = 1
    · rw [if_pos c3] at h ⊢
      by_cases c4 : (T (T p).2.1).2.2 = 0
      · rw [if_pos c4] at h ⊢
        obtain ⟨b1, b2, b3, b4⟩ := hR (T p).2.1 (by omega) c4
        by_cases c5 : (T (T p).2.1).1 < 1 ∨ (T (T p).2.1).1 > out.length
        · rw [if_pos c5] at h; exact absurd (show (_ : Int) = 0 from h) (by simp)
        rw [if_neg c5]
        simp only
        rw [copyN_length]
        omega
      · rw [if_neg c4] at h; exact absurd h c4
    · rw [if_neg c3] at h ⊢
      by_cases c4 : (s.size : Int) - (T p).2.1 < (T p).1 / 2
      · rw [if_pos c4] at h; exact absurd (show (_ : Int) = 0 from h) (by simp)
      rw [if_neg c4]
      simp only
      rw [List.length_append, bytesOf_length, ByteArray.size_extract]
      omega
  · rw [if_neg c1] at h; exact absurd h c1
def spreadQ (T : Int → Int × Int × Int) (s : ByteArray) (total : Int) : Nat → Int → List Int → ByteArray × Int
  | 0, _, _ => (⟨#[]⟩, 0)
  | d + 1, p, out => if (out.length : Int) < total then
      (if (pieceT T s p out (total - out.length)).1 = 0 then spreadQ T s total d (pieceT T s p out (total - out.length)).2.1 (pieceT T s p out (total - out.length)).2.2
       else (⟨#[]⟩, (pieceT T s p out (total - out.length)).1))
    else if p < s.size then (⟨#[]⟩, 2) else (strOfNums out, 0)
def decS (T : Int → Int × Int × Int) (s : ByteArray) (most : Int) : ByteArray × Int :=
  if (T 0).2.2 = 0 then (if most < 0 ∨ (T 0).1 > most then (⟨#[]⟩, 4) else spreadQ T s (T 0).1 ((T 0).1.toNat + 1) (T 0).2.1 []) else (⟨#[]⟩, (T 0).2.2)
def outLen (w : World) (g : Nat) : Nat := match w.cell? ⟨g, 2, none⟩ with | some (.slice _ n _) => n | _ => 0
theorem outLen_spr {w : World} {g : Nat} {s : ByteArray} {p : Int} {out : List Int} (h : Spr w g s p out) : outLen w g = out.length := by
  obtain ⟨v, hb, ho⟩ := h
  obtain ⟨A, c, rfl⟩ := own_shape2 ho
  unfold outLen; rw [sp2 hb]
theorem own_reads_u8 {w : World} {base : Nat} {A : Option Addr} {c : Nat} {xs : List Int} (hl : xs.length ≤ 1000000000) (ho : w.ownsRow base 5 1 (.slice A xs.length c) xs.length (xs.map (Value.int .u8))) : ReadsInt w .u8 A xs.length xs := by
  rcases ho.2 with ⟨hv, h0⟩ | ⟨g, cap, cur, hv, _⟩
  · exact ⟨rfl, by omega, fun h => absurd h (by omega)⟩
  · simp only [Value.slice.injEq] at hv
    obtain ⟨rfl, _, rfl⟩ := hv
    refine ⟨rfl, by omega, fun _ => ⟨_, rfl, fun j hj => ?_⟩⟩
    rw [add_plain, ho.cellAt j (by omega), List.getElem?_map, List.getElem?_eq_getElem hj, List.getD_eq_getElem?_getD, List.getElem?_eq_getElem hj]
    rfl
def DecRel (w : World) (T : Int → Int × Int × Int) (s : ByteArray) (total : Int) (R : ByteArray × Int) (wr : World) : Prop :=
  ∃ (d : Nat) (p : Int) (out : List Int), 0 ≤ p ∧ p ≤ s.size ∧ (out.length : Int) ≤ total ∧ total - out.length < d ∧ spreadQ T s total d p out = R ∧ Spr wr w.heap.size s p out ∧ Below w.heap.size w wr
set_option maxHeartbeats 4000000 in
set_option maxRecDepth 100000 in
theorem dec_any (T : Int → Int × Int × Int) (s : ByteArray) (most : Int) (w : World) (hz : s.size ≤ 1000000) (hm : most ≤ 1000000)
    (hT : ∀ q : Int, 0 ≤ q → q ≤ s.size → octet_Take.f 60 s q = some (T q)) (hR : ∀ q : Int, 0 ≤ q → (T q).2.2 = 0 → q < (T q).2.1 ∧ (T q).2.1 ≤ s.size ∧ 0 ≤ (T q).1 ∧ (T q).1 < 18446744073709551616) :
    Calls Try.prog 12 #[.string s, .int .i64 most] w fun e w' => e = .returned (.tuple #[.string (decS T s most).1, .int .i64 (decS T s most).2]) ∧ Below w.heap.size w w' := by
  have hT0 := hT 0 (by omega) (by omega)
  have hR0 := hR 0 (by omega)
  have hS0 : Spr (w.alloc (.cells #[.string s, .int .i64 0, .slice none 0 0] 48)) w.heap.size s 0 [] := ⟨_, heap_alloc_new _ _, World.ownsRow_nil _ _ _ _⟩
  have HTT := Lib.hid hT
  have HRR := Lib.hid hR
  have hBw : Below w.heap.size w (w.alloc (.cells #[.string s, .int .i64 0, .slice none 0 0] 48)) := (Below.refl _ _).alloc (Nat.le_refl _) _
  generalize hr1 : (T 0).1 = r1 at *
  generalize hr2 : (T 0).2.1 = r2 at *
  generalize hr3 : (T 0).2.2 = r3 at *
  have hTp : T 0 = (r1, r2, r3) := by rw [← hr1, ← hr2, ← hr3]
  rw [hTp] at hT0
  by_cases e1 : r3 = 0
  · obtain ⟨h12, h2s, h10, h11⟩ := hR0 e1
    have arm1 := number_any 60 w.heap.size s 0 [] r1 r2 r3 r2 _ hS0 hT0 (by rw [if_pos e1])
    have hb1 : (r3 != 0) = false := by simpa using e1
    by_cases m1 : most < 0
    · have hd : decS T s most = (⟨#[]⟩, 4) := by unfold decS; rw [hr3, if_pos e1, if_pos (Or.inl m1)]
      have HD := Lib.hid hd
      clear hd hT0 hR0 hT hR hTp hr1 hr2 hr3 e1
      go_enter Try.func12, Try.ntmps12
      go_wp2_with (go_at_call 21; refine arm1.mono ?_; rintro e w1 ⟨rfl, hs1, hB1⟩)
      go_ret2
      rw [HD.out]
      exact ⟨rfl, hBw.trans hB1⟩
    have hu : IntKind.u64.wrap most = most := by simp [IntKind.wrap, IntKind.bits, IntKind.signed]; omega
    have m1d : decide (most < 0) = false := decide_eq_false m1
    by_cases m2 : r1 > most
    · have hd : decS T s most = (⟨#[]⟩, 4) := by unfold decS; rw [hr3, hr1, if_pos e1, if_pos (Or.inr m2)]
      have HD := Lib.hid hd
      clear hd hT0 hR0 hT hR hTp hr1 hr2 hr3 e1
      go_enter Try.func12, Try.ntmps12
      go_wp2_with (go_at_call 21; refine arm1.mono ?_; rintro e w1 ⟨rfl, hs1, hB1⟩)
      go_ret2
      rw [HD.out]
      exact ⟨rfl, hBw.trans hB1⟩
    have m2d : decide (r1 > most) = false := decide_eq_false m2
    have hd : decS T s most = spreadQ T s r1 (r1.toNat + 1) r2 [] := by unfold decS; rw [hr3, hr1, hr2, if_pos e1, if_neg (by omega)]
    have HD := Lib.hid hd
    have hrm : r1 ≤ 1000000 := by omega
    have hr20 : 0 ≤ r2 := by omega
    clear hd hT0 hR0 hT hR hTp hr1 hr2 hr3 e1
    go_enter Try.func12, Try.ntmps12
    go_wp2_with (go_at_call 21; refine arm1.mono ?_; rintro e w1 ⟨rfl, hs1, hB1⟩)
    go_loopw [9] (fun _ wr => DecRel w T s r1 (decS T s most) wr) (fun _ wr => r1.toNat - outLen wr w.heap.size)
    case atStart => exact ⟨r1.toNat + 1, r2, [], hr20, h2s, by simpa using h10, by simp; omega, HD.out.symm, hs1, hBw.trans hB1⟩
    case round =>
      obtain ⟨d, p, out, hp0, hp1, hol, hdl, hQ, hs3, hB3⟩ := hrel
      have hml := outLen_spr hs3
      have hs3' := hs3
      obtain ⟨v3, hb3, ho3⟩ := hs3'
      obtain ⟨A3, k3, rfl⟩ := own_shape2 ho3
      have c0 := sp0 hb3
      have c1 := sp1 hb3
      have c2 := sp2 hb3
      obtain ⟨d, rfl⟩ : ∃ m, d = m + 1 := ⟨d - 1, by omega⟩
      have hq64 : IntKind.i64.wrap r1 = r1 := IntWalk.i64_in _ (by omega)
      rw [spreadQ] at hQ
      by_cases hlt : (out.length : Int) < r1
      · rw [if_pos hlt] at hQ
        have armp := piece_any T w.heap.size s p (r1 - out.length) out _ hs3 (by omega) hp0 hp1 (by omega) (by omega) (by omega) HTT.out HRR.out
        have hok := pieceT_ok T s p out (r1 - out.length) hp0 hp1 HRR.out
        generalize pieceT T s p out (r1 - out.length) = R at *
        obtain ⟨x1, x2, x3⟩ := R
        by_cases x0 : x1 = 0
        · simp only at hQ hok armp
          rw [if_pos x0] at hQ
          obtain ⟨k1, k2, k3', k4⟩ := hok x0
          have hxb : (x1 != 0) = false := by simpa using x0
          have HQ := Lib.hid hQ
          have HB3 := Lib.hid hb3
          clear hQ hok x0
          go_wp2_with (go_at_call 22; refine armp.mono ?_; rintro e w4 ⟨rfl, hs4, hB4⟩)
          go_roundw
          case rel => exact ⟨d, x2, x3, k1, k2, by omega, by omega, HQ.out, hs4, hB3.trans hB4⟩
          case measure => rw [hml, outLen_spr hs4]; omega
        · simp only at hQ hok armp
          rw [if_neg x0] at hQ
          have hxb : (x1 != 0) = true := by simpa using x0
          have HQ := Lib.hid hQ
          clear hQ hok x0
          go_wp2_with (go_at_call 22; refine armp.mono ?_; rintro e w4 ⟨rfl, hs4, hB4⟩)
          go_ret2
          rw [← HQ.out]
          exact ⟨rfl, hB3.trans hB4⟩
      · rw [if_neg hlt] at hQ
        by_cases hps : p < s.size
        · rw [if_pos hps] at hQ
          have HQ := Lib.hid hQ
          clear hQ
          go_wp2
          go_ret2
          rw [← HQ.out]
          exact ⟨rfl, hB3⟩
        · rw [if_neg hps] at hQ
          have HQ := Lib.hid hQ
          have hcs := string_of_reads (P := Try.prog) (src := 30) (dst := 9) Try.underlying30 Try.underlying5 Try.underlying9 (c := k3) (own_reads_u8 (by omega) ho3)
          clear hQ
          go_wp2
          go_ret2
          rw [← HQ.out]
          exact ⟨rfl, hB3⟩
  · have hd : decS T s most = (⟨#[]⟩, r3) := by unfold decS; rw [hr3, if_neg e1]
    have HD := Lib.hid hd
    have arm1 := number_any 60 w.heap.size s 0 [] r1 r2 r3 0 _ hS0 hT0 (by rw [if_neg e1])
    have hb1 : (r3 != 0) = true := by simpa using e1
    clear hd hT0 hR0 hT hR hTp hr1 hr2 hr3 e1
    go_enter Try.func12, Try.ntmps12
    go_wp2_with (go_at_call 21; refine arm1.mono ?_; rintro e w1 ⟨rfl, hs1, hB1⟩)
    go_ret2
    rw [HD.out]
    exact ⟨rfl, hBw.trans hB1⟩
end Go.Proofs.Ytmkoajmldbhnbaa.Hand
