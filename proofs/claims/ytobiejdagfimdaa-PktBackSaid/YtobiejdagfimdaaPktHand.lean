/- pkt.Put and pkt.Join, by hand: what a builder gathers over a list of pieces. -/
import Derived.Test.YtobiejdagfimdaaBuilder
import Derived.Test.YtobiejdagfimdaaPPktx4
namespace Go.Proofs.Ytobiejdagfimdaa.Hand
open Go.Proofs.Ytobiejdagfimdaa.PPkt
open Go.RowKit Go.Proofs.YtobiejdagfimdaaW.PrintWords Go.Proofs.YtobiejdagfimdaaW.PrintLast Go.Proofs.YtobiejdagfimdaaW.PrintMore
set_option linter.unusedVariables false
set_option linter.unusedSimpArgs false

def joinL : List S24 → ByteArray → ByteArray
  | [], b => b
  | p :: l, b => joinL l (if p.f0 = 1 then b ++ p.f1 else b)
theorem size_app (s t : ByteArray) : (s ++ t).size = s.size + t.size := by
  have h : ∀ x : ByteArray, x.size = x.data.size := fun _ => rfl
  rw [h, h, h, ByteArray.data_append, Array.size_append]
theorem joinL_size (l : List S24) : ∀ b, b.size ≤ (joinL l b).size := by
  induction l with
  | nil => intro b; exact Nat.le_refl _
  | cons p l ih =>
    intro b
    refine Nat.le_trans ?_ (ih _)
    split
    · rw [size_app]; omega
    · exact Nat.le_refl _

theorem drop_rd (l : List S24) (k : Nat) (h : k < l.length) : l.drop k = rd_T24 l k :: l.drop (k + 1) := by
  rw [List.drop_eq_getElem_cons h]
  congr 1
  simp [rd_T24, List.getD_eq_getElem?_getD, List.getElem?_eq_getElem h]

def JoinRel (w : World) (l : List S24) (r : ByteArray) (kv : Value) (wr : World) : Prop :=
  ∃ (k : Nat) (b : ByteArray), kv = .int .i64 k ∧ k ≤ l.length ∧ IsB wr w.heap.size w.heap.size b ∧ joinL (l.drop k) b = r ∧ Below w.heap.size w wr

set_option maxHeartbeats 1000000 in
set_option maxRecDepth 100000 in
theorem join_any (A0 : Option Addr) (c0 : Nat) (l : List S24) (w : World) (hr0 : Kd.C k24 w A0 l.length l) (hc0 : l.length ≤ c0) (hl : l.length ≤ 9223372036854775807) (hr : (joinL l ⟨#[]⟩).size ≤ 140737488355328) :
    Calls Try.prog 20 #[.slice A0 l.length c0] w fun e w' => e = .returned (.string (joinL l ⟨#[]⟩)) ∧ Below w.heap.size w w' := by
  have HR0 := Aside0.mk hr0
  have HL := Lib.hid hr
  clear hr0 hr
  go_enter Try.func20, Try.ntmps20
  go_wp2
  go_loopw [8] (fun kv wr => JoinRel w l (joinL l ⟨#[]⟩) kv wr) (fun kv _ => l.length - (intOf kv).toNat)
  case atStart => exact ⟨0, ⟨#[]⟩, rfl, by omega, IsB.fresh w _ (Nat.le_refl _), rfl, (Below.refl _ _).alloc (Nat.le_refl _) _⟩
  case round =>
    obtain ⟨k, b, rfl, hk, hb, hj, hbel⟩ := hrel
    have HJ := Lib.hid hj
    clear hj
    have hz := hbel.size
    have hlt0 := hb.lt
    by_cases hlt : k < l.length
    · obtain ⟨ad, e, h0, h1⟩ := at_T24 HR0.out (k : Int) (by omega) (by omega)
      cases e
      replace h0 := (hbel.cell (World.block_lt_of_cell? w _ h0)).trans h0
      replace h1 := (hbel.cell (World.block_lt_of_cell? w _ h1)).trans h1
      simp only [Int.toNat_natCast] at h0 h1
      have hd := drop_rd l k hlt
      have hsz := joinL_size (l.drop k) b
      have HSZ : b.size ≤ (joinL l ⟨#[]⟩).size := by rw [HJ.out] at hsz; exact hsz
      clear hsz
      by_cases hf : ((rd_T24 l k).f0 == 1) = true
      · have hj2 : joinL (l.drop (k + 1)) (b ++ (rd_T24 l k).f1) = joinL l ⟨#[]⟩ := by
          have := HJ.out; rw [hd] at this; simp only [joinL] at this; rw [if_pos (by simpa using hf)] at this; exact this
        have hbs : b.size + (rd_T24 l k).f1.size ≤ 140737488355328 := by
          have := joinL_size (l.drop (k + 1)) (b ++ (rd_T24 l k).f1); rw [hj2, size_app] at this; have := HL.out; omega
        have HJ2 := Lib.hid hj2
        clear hj2 hd HSZ
        go_wp2_with (go_at_call 27; refine (writeString_any w.heap.size w.heap.size b _ _ ((hb.alloc _)) hbs (by simp; omega)).mono ?_; rintro e w2 ⟨rfl, hb2, hB2⟩)
        go_roundw
        case rel => exact ⟨k + 1, _, by simp, by omega, hb2, HJ2.out, (hbel.alloc hz _).trans hB2⟩
        case measure => simp [intOf]; omega
      · replace hf := Bool.eq_false_iff.mpr hf
        have hj2 : joinL (l.drop (k + 1)) b = joinL l ⟨#[]⟩ := by
          have := HJ.out; rw [hd] at this; simp only [joinL] at this; rw [if_neg (by simpa using hf)] at this; exact this
        have HJ2 := Lib.hid hj2
        clear hj2 hd HSZ
        go_wp2
        go_roundw
        case rel => exact ⟨k + 1, _, by simp, by omega, hb.alloc _, HJ2.out, hbel.alloc hz _⟩
        case measure => simp [intOf]; omega
    · have hkl : l.drop k = [] := List.drop_eq_nil_of_le (by omega)
      have hfin : b = joinL l ⟨#[]⟩ := by have := HJ.out; rw [hkl] at this; exact this
      have HF := Lib.hid hfin
      clear hfin hkl
      go_wp2_with (go_at_call 28; refine (string_any w.heap.size w.heap.size b _ hb hz).mono ?_; rintro e w2 ⟨rfl, hB2⟩)
      go_ret
      exact ⟨by rw [← HF.out]; rfl, hbel.trans hB2⟩

def pkt_Join.f (l : List S24) : Option ByteArray := if l.length ≤ 9223372036854775807 then (if (joinL l ⟨#[]⟩).size ≤ 140737488355328 then some (joinL l ⟨#[]⟩) else none) else none
theorem pkt_Join.calls (A0 : Option Addr) (c0 : Nat) (l0 : List S24) (r : ByteArray) (w : World) (hr0 : Kd.C k24 w A0 l0.length l0) (hc0 : l0.length ≤ c0) (h : pkt_Join.f l0 = some r) :
    Calls Try.prog 20 #[.slice A0 l0.length c0] w fun e w' => e = .returned (.string r) ∧ Below w.heap.size w w' := by
  unfold pkt_Join.f at h
  split at h
  · split at h
    · simp only [Option.some.injEq] at h
      subst h
      exact join_any A0 c0 l0 w hr0 hc0 (by assumption) (by assumption)
    · cases h
  · cases h

/-! Put -/
def putL : List S24 → ByteArray → Option (ByteArray × Int)
  | [], b => some (b, 0)
  | p :: l, b => (pkt_one.f 5 p.f0 p.f1).bind fun r => if r.2 = true then (if b.size + r.1.size ≤ 140737488355328 then putL l (b ++ r.1) else none) else some (⟨#[]⟩, 1)

def PutsRel (w : World) (l : List S24) (r : ByteArray × Int) (kv : Value) (wr : World) : Prop :=
  ∃ (k : Nat) (b : ByteArray), kv = .int .i64 k ∧ k ≤ l.length ∧ IsB wr w.heap.size w.heap.size b ∧ putL (l.drop k) b = some r ∧ Below w.heap.size w wr

set_option maxHeartbeats 1000000 in
set_option maxRecDepth 100000 in
theorem puts_any (A0 : Option Addr) (c0 : Nat) (l : List S24) (r1 : ByteArray) (r2 : Int) (w : World) (hr0 : Kd.C k24 w A0 l.length l) (hc0 : l.length ≤ c0) (hl : l.length ≤ 9223372036854775807) (hr : putL l ⟨#[]⟩ = some (r1, r2)) :
    Calls Try.prog 15 #[.slice A0 l.length c0] w fun e w' => e = .returned (.tuple #[.string r1, .int .i64 r2]) ∧ Below w.heap.size w w' := by
  have HR0 := Aside0.mk hr0
  have HL := Lib.hid hr
  clear hr0 hr
  go_enter Try.func15, Try.ntmps15
  go_wp2
  go_loopw [11] (fun kv wr => PutsRel w l (r1, r2) kv wr) (fun kv _ => l.length - (intOf kv).toNat)
  case atStart => exact ⟨0, ⟨#[]⟩, rfl, by omega, IsB.fresh w _ (Nat.le_refl _), HL.out, (Below.refl _ _).alloc (Nat.le_refl _) _⟩
  case round =>
    obtain ⟨k, b, rfl, hk, hb, hj, hbel⟩ := hrel
    have HJ := Lib.hid hj
    clear hj
    have hz := hbel.size
    have hlt0 := hb.lt
    by_cases hlt : k < l.length
    · obtain ⟨ad, e, h0, h1⟩ := at_T24 HR0.out (k : Int) (by omega) (by omega)
      cases e
      replace h0 := (hbel.cell (World.block_lt_of_cell? w _ h0)).trans h0
      replace h1 := (hbel.cell (World.block_lt_of_cell? w _ h1)).trans h1
      simp only [Int.toNat_natCast] at h0 h1
      have hj := HJ.out
      rw [drop_rd l k hlt] at hj
      simp only [putL] at hj
      obtain ⟨⟨s1, s2⟩, ho, hj⟩ := Option.bind_eq_some_iff.mp hj
      have HO := Lib.hid ho
      clear ho
      cases s2 with
      | true =>
        simp only [if_true] at hj
        by_cases hbs : b.size + s1.size ≤ 140737488355328
        · rw [if_pos hbs] at hj
          have HJ2 := Lib.hid hj
          clear hj
          go_wp2_with fail
          refine (pkt_one.calls 5 _ _ s1 true _ HO.out).mono ?_
          rintro e w1 ⟨rfl, hB1⟩
          have hb1 : IsB w1 w.heap.size w.heap.size b := (hb.alloc _).below hB1
          have hz1 : w.heap.size ≤ w1.heap.size := by have := hB1.size; simp at this; omega
          go_wp2_with (go_at_call 27; refine (writeString_any w.heap.size w.heap.size b _ _ hb1 hbs hz1).mono ?_; rintro e w2 ⟨rfl, hb2, hB2⟩)
          go_roundw
          case rel => exact ⟨k + 1, _, by simp, by omega, hb2, HJ2.out, ((hbel.alloc hz _).trans (hB1.mono (by simp; omega))).trans hB2⟩
          case measure => simp [intOf]; omega
        · rw [if_neg hbs] at hj; cases hj
      | false =>
        simp only [Bool.false_eq_true, if_false, Option.some.injEq, Prod.mk.injEq] at hj
        obtain ⟨rfl, rfl⟩ := hj
        go_wp2_with fail
        refine (pkt_one.calls 5 _ _ s1 false _ HO.out).mono ?_
        rintro e w1 ⟨rfl, hB1⟩
        go_wp2
        go_ret2
        exact ⟨rfl, (hbel.alloc hz _).trans (hB1.mono (by simp; omega))⟩
    · have hkl : l.drop k = [] := List.drop_eq_nil_of_le (by omega)
      have hfin : b = r1 ∧ 0 = r2 := by have := HJ.out; rw [hkl] at this; simpa [putL] using this
      obtain ⟨rfl, rfl⟩ := hfin
      clear hkl
      go_wp2_with (go_at_call 28; refine (string_any w.heap.size w.heap.size b _ hb hz).mono ?_; rintro e w2 ⟨rfl, hB2⟩)
      go_ret2
      exact ⟨rfl, hbel.trans hB2⟩

def pkt_Put.f (l : List S24) : Option (ByteArray × Int) := if l.length ≤ 9223372036854775807 then putL l ⟨#[]⟩ else none
theorem pkt_Put.calls (A0 : Option Addr) (c0 : Nat) (l0 : List S24) (r1 : ByteArray) (r2 : Int) (w : World) (hr0 : Kd.C k24 w A0 l0.length l0) (hc0 : l0.length ≤ c0) (h : pkt_Put.f l0 = some (r1, r2)) :
    Calls Try.prog 15 #[.slice A0 l0.length c0] w fun e w' => e = .returned (.tuple #[.string r1, .int .i64 r2]) ∧ Below w.heap.size w w' := by
  unfold pkt_Put.f at h
  split at h
  · exact puts_any A0 c0 l0 r1 r2 w hr0 hc0 (by assumption) h
  · cases h

end Go.Proofs.Ytobiejdagfimdaa.Hand
