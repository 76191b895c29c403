/- slices.IndexFunc over instructions, at any function value that tells a test and leaves what came in. -/
import Derived.Test.YtefnmfcgjlppaaaDoorZLib
import Derived.OneCell
import Derived.OwnWalk
import Derived.WalkSpells
import Derived.Lib.Hide
import Derived.IntWalk
import Derived.Test.YtefnmfcgjlppaaaDoorZP0
import Derived.Test.YtefnmfcgjlppaaaDoorBuf
namespace Go.Proofs.YtefnmfcgjlppaaaDoor.Hand
open Go.RowKit Go.Proofs.YtefnmfcgjlppaaaDoorW.PrintWords Go.Proofs.YtefnmfcgjlppaaaDoorW.PrintLast Go.Proofs.YtefnmfcgjlppaaaDoorW.PrintMore
open Go.Proofs.YtefnmfcgjlppaaaDoor.PTd
set_option linter.unusedVariables false
set_option linter.unusedSimpArgs false
/-- The place of the first that passes the test; -1. -/
def idxQ (p : S34 → Bool) : List S34 → Int → Int
  | [], _ => -1
  | x :: l, i => if p x = true then i else idxQ p l (i + 1)
/-- A function value that tells p in every world that is as w was below. -/
structure Tests (w : World) (f : FuncId) (fv : Array Value) (p : S34 → Bool) : Prop where
  entered : ∀ args w, (callFunc f args).run Tryd.prog w = .ok (.enter f args) w
  tells : ∀ x wr, Below w.heap.size w wr → Calls Tryd.prog f (#[.agg #[.int .i64 x.f0, .string x.f1, .string x.f2]] ++ fv) wr fun e w' => e = .returned (.bool (p x)) ∧ Below wr.heap.size wr w'
def IdxRel (w : World) (p : S34 → Bool) (l : List S34) (r : Int) (iv : Value) (wr : World) : Prop :=
  ∃ (i : Int) (k : Nat), iv = .int .i64 i ∧ i = k ∧ k ≤ l.length ∧ idxQ p (l.drop k) i = r ∧ Below w.heap.size w wr
set_option maxHeartbeats 2000000 in
set_option maxRecDepth 100000 in
theorem indexFunc_any (f : FuncId) (fv : Array Value) (p : S34 → Bool) (A0 : Option Addr) (c0 : Nat) (l : List S34) (w : World) (hT : Tests w f fv p) (hr0 : Kd.C k34 w A0 l.length l) (hl : l.length ≤ 1000000000) :
    Calls Tryd.prog 28 #[.slice A0 l.length c0, .func (.func f) #[] fv] w fun e w' => e = .returned (.int .i64 (idxQ p l 0)) ∧ Below w.heap.size w w' := by
  obtain ⟨r, hr⟩ : ∃ r, idxQ p l 0 = r := ⟨_, rfl⟩
  rw [hr]
  have HR := Lib.hid hr
  have HR0 := Aside0.mk hr0
  have HT := Lib.hid hT
  clear hr hr0 hT
  go_enter Tryd.func28, Tryd.ntmps28
  go_wp2
  go_loopw [8] (fun iv wr => IdxRel w p l r iv wr) (fun iv _ => (l.length - intOf iv).toNat)
  case atStart => exact ⟨0, 0, rfl, rfl, by omega, HR.out, Below.refl _ _⟩
  case round =>
    clear HR
    obtain ⟨i, k, rfl, hi, hk, hj, hbel⟩ := hrel
    subst hi
    by_cases c : (k : Int) < (l.length : Int)
    · have cb : decide ((k : Int) < (l.length : Int)) = true := decide_eq_true c
      have i0 : 0 ≤ (k : Int) := by omega
      obtain ⟨ad, e, h0, h1, h2⟩ := at_T34 HR0.out (k : Int) i0 c
      cases e
      replace h0 := (hbel.cell (World.block_lt_of_cell? w _ h0)).trans h0
      replace h1 := (hbel.cell (World.block_lt_of_cell? w _ h1)).trans h1
      replace h2 := (hbel.cell (World.block_lt_of_cell? w _ h2)).trans h2
      have hlt : k < l.length := by omega
      simp only [Int.toNat_natCast] at h0 h1 h2
      have hd : l.drop k = rd_T34 l (k : Int) :: l.drop (k + 1) := by
        rw [List.drop_eq_getElem_cons hlt]
        congr 1
        unfold rd_T34
        rw [Int.toNat_natCast, List.getD_eq_getElem?_getD, List.getElem?_eq_getElem hlt]; rfl
      rw [hd, idxQ] at hj
      generalize rd_T34 l (k : Int) = x at *
      have ht := HT.out.tells x wr hbel
      have hent := HT.out.entered
      have hw : IntKind.i64.wrap ((k : Int) + 1) = (k : Int) + 1 := by rw [i64_w]; exact wrap64_id (by omega) (by omega)
      have HJ := Lib.hid hj
      have HB := Lib.hid hbel
      have HTT := Lib.hid ht
      clear hj hd ht
      go_wp2_with fail
      refine HTT.out.mono ?_
      rintro e w2 ⟨rfl, hb2⟩
      have hB2 := HB.out.trans (hb2.mono HB.out.size)
      have HB2 := Lib.hid hB2
      clear hb2 hB2
      obtain ⟨b, hb⟩ : ∃ b, p x = b := ⟨_, rfl⟩
      have hj := HJ.out
      rw [hb] at hj ⊢
      cases b with
      | true =>
        rw [if_pos rfl] at hj
        have HJ2 := Lib.hid hj
        clear hj HJ
        go_wp2
        go_ret
        exact ⟨by rw [← HJ2.out]; rfl, HB2.out⟩
      | false =>
        rw [if_neg (by simp)] at hj
        have HJ2 := Lib.hid hj
        clear hj HJ
        go_wp2
        refine ⟨⟨(k : Int) + 1, k + 1, rfl, by omega, by omega, HJ2.out, HB2.out⟩, ?_⟩
        simp [intOf]
        omega
    · have cb : decide ((k : Int) < (l.length : Int)) = false := decide_eq_false c
      have hk2 : k = l.length := by omega
      rw [hk2, List.drop_length, idxQ] at hj
      subst hj
      clear c
      go_wp2
      go_ret
      exact ⟨rfl, hbel⟩
end Go.Proofs.YtefnmfcgjlppaaaDoor.Hand
/- ident.Is, in the world as it was. -/
namespace Go.Proofs.YtefnmfcgjlppaaaDoor.Hand
open Go.RowKit Go.Proofs.YtefnmfcgjlppaaaDoorW.PrintWords Go.Proofs.YtefnmfcgjlppaaaDoorW.PrintLast Go.Proofs.YtefnmfcgjlppaaaDoorW.PrintMore
open Go.Proofs.YtefnmfcgjlppaaaDoor.PTd
set_option linter.unusedVariables false
set_option linter.unusedSimpArgs false
theorem all_total (s : ByteArray) (n : Int) (d : Nat) : ∀ (k : Nat) (i : Int), 0 ≤ i → n ≤ i + d → n ≤ s.size → n ≤ 1000 → d < k → ∃ b, ident_all.l0 k s n i = some b := by
  induction d with
  | zero =>
    intro k i h0 h1 hn hm hk
    obtain ⟨k, rfl⟩ : ∃ m, k = m + 1 := ⟨k - 1, by omega⟩
    rw [ident_all.l0]
    rw [if_neg (by omega)]
    exact ⟨_, rfl⟩
  | succ d ih =>
    intro k i h0 h1 hn hm hk
    obtain ⟨k, rfl⟩ : ∃ m, k = m + 1 := ⟨k - 1, by omega⟩
    rw [ident_all.l0]
    by_cases c : i < n
    · rw [if_pos c]
      rw [if_pos h0, if_pos (show i < (s.size : Int) by omega), ident_value.f, strings_IndexByte.f, Option.bind_some, Option.bind_some]
      split
      · exact ⟨_, rfl⟩
      · rw [wrap64_id (by omega) (by omega)]
        exact ih k (i + 1) (by omega) (by omega) hn hm (by omega)
    · rw [if_neg c]
      exact ⟨_, rfl⟩
def isQ (s : ByteArray) : Bool := (ident_Is.f 50 s).getD false
theorem isQ_f (s : ByteArray) : ident_Is.f 50 s = some (isQ s) := by
  have : ∃ b, ident_Is.f 50 s = some b := by
    unfold ident_Is.f ident_all.f
    split
    · obtain ⟨b, hb⟩ := all_total s s.size 40 50 0 (by omega) (by omega) (by omega) (by omega) (by omega)
      rw [hb]; exact ⟨_, rfl⟩
    · exact ⟨_, rfl⟩
  obtain ⟨b, hb⟩ := this
  unfold isQ
  rw [hb]; rfl
def valueQ (c : Int) : Int := Lib.indexByte [48, 49, 50, 51, 52, 53, 54, 55, 56, 57, 97, 98, 99, 100, 101, 102] c.toNat.toUInt8
set_option maxHeartbeats 1000000 in
set_option maxRecDepth 100000 in
theorem value_same (c : Int) (w : World) : Calls Tryd.prog 68 #[.int .u8 c] w fun e w' => e = .returned (.int .i64 (valueQ c)) ∧ w' = w := by
  have h : Calls Tryd.prog 73 #[.string ⟨#[48, 49, 50, 51, 52, 53, 54, 55, 56, 57, 97, 98, 99, 100, 101, 102]⟩, .int .u8 c] w fun e w' => e = .returned (.int .i64 (valueQ c)) ∧ w' = w := Tryd.strings_IndexByte _ c w
  generalize valueQ c = v at *
  have H := Lib.hid h
  clear h
  go_enter Tryd.func68, Tryd.ntmps68
  go_wp2_with (go_at_call 73; refine H.out.mono ?_; rintro e w1 ⟨rfl, rfl⟩)
  go_ret
  exact ⟨rfl, rfl⟩
def AllRel (w : World) (s : ByteArray) (b : Bool) (iv : Value) (wr : World) : Prop :=
  ∃ (i : Int) (k : Nat), iv = .int .i64 i ∧ 0 ≤ i ∧ i ≤ s.size ∧ ident_all.l0 k s s.size i = some b ∧ wr = w
set_option maxHeartbeats 1000000 in
set_option maxRecDepth 100000 in
theorem all_same (s : ByteArray) (b : Bool) (k : Nat) (w : World) (hz : s.size ≤ 1000) (h : ident_all.l0 k s s.size 0 = some b) :
    Calls Tryd.prog 59 #[.string s] w fun e w' => e = .returned (.bool b) ∧ w' = w := by
  have H := Lib.hid h
  clear h
  go_enter Tryd.func59, Tryd.ntmps59
  go_wp2
  go_loopw [6] (fun iv wr => AllRel w s b iv wr) (fun iv _ => (s.size - intOf iv).toNat)
  case atStart => exact ⟨0, k, rfl, by omega, by omega, H.out, rfl⟩
  case round =>
    clear H
    obtain ⟨i, k, rfl, hi0, hi1, h, rfl⟩ := hrel
    obtain ⟨k, rfl⟩ : ∃ m, k = m + 1 := ⟨k - 1, by cases k <;> simp_all [ident_all.l0]⟩
    rw [ident_all.l0] at h
    by_cases c : i < (s.size : Int)
    · have cb : decide (i < (s.size : Int)) = true := decide_eq_true c
      rw [if_pos c, if_pos hi0, if_pos c, ident_value.f, strings_IndexByte.f, Option.bind_some, Option.bind_some] at h
      have hw : IntKind.i64.wrap (i + 1) = i + 1 := by rw [i64_w]; exact wrap64_id (by omega) (by omega)
      rw [wrap64_id (show -9223372036854775808 ≤ i + 1 by omega) (by omega)] at h
      change (if valueQ (bt s i) < 0 then some false else ident_all.l0 k s s.size (i + 1)) = some b at h
      have hx := bt_at s i
      generalize bt s i = c8 at *
      have hv := fun w => value_same c8 w
      generalize valueQ c8 = v at *
      have HV := Lib.hid hv
      clear hv
      by_cases hn : v < 0
      · have hnb : decide (v < 0) = true := decide_eq_true hn
        rw [if_pos hn] at h
        simp only [Option.some.injEq] at h
        subst h
        go_wp2_with (go_at_call 68; refine (HV.out _).mono ?_; rintro e w1 ⟨rfl, rfl⟩)
        go_ret
        exact ⟨rfl, rfl⟩
      · have hnb : decide (v < 0) = false := decide_eq_false hn
        rw [if_neg hn] at h
        have H := Lib.hid h
        clear h
        go_wp2_with (go_at_call 68; refine (HV.out _).mono ?_; rintro e w1 ⟨rfl, rfl⟩)
        refine ⟨⟨i + 1, k, rfl, by omega, by omega, H.out, rfl⟩, ?_⟩
        simp [intOf]
        omega
    · rw [if_neg c] at h
      have cb : decide (i < (s.size : Int)) = false := decide_eq_false c
      simp only [Option.some.injEq] at h
      subst h
      go_wp2
      go_ret
      exact ⟨rfl, rfl⟩
set_option maxHeartbeats 1000000 in
set_option maxRecDepth 100000 in
theorem Is_same (s : ByteArray) (w : World) : Calls Tryd.prog 46 #[.string s] w fun e w' => e = .returned (.bool (isQ s)) ∧ w' = w := by
  have h := isQ_f s
  generalize isQ s = b at *
  unfold ident_Is.f ident_all.f at h
  by_cases c : (s.size : Int) = 40
  · have cb : ((s.size : Int) == 40) = true := beq_iff_eq.mpr c
    rw [if_pos c] at h
    obtain ⟨b', hb, h⟩ := Option.bind_eq_some_iff.mp h
    simp only [Option.some.injEq] at h
    subst h
    have ha := fun w => all_same s b' 50 w (by omega) hb
    have HA := Lib.hid ha
    clear ha hb c
    go_enter Tryd.func46, Tryd.ntmps46
    go_wp2_with (go_at_call 59; refine (HA.out _).mono ?_; rintro e w1 ⟨rfl, rfl⟩)
    go_ret
    exact ⟨rfl, rfl⟩
  · have cb : ((s.size : Int) == 40) = false := beq_eq_false_iff_ne.mpr c
    rw [if_neg c] at h
    simp only [Option.some.injEq] at h
    subst h
    clear c
    go_enter Tryd.func46, Tryd.ntmps46
    go_wp2
    go_ret
    exact ⟨rfl, rfl⟩
end Go.Proofs.YtefnmfcgjlppaaaDoor.Hand
/- todo.words as the program's text lays them, and todo.kind, by hand. -/
namespace Go.Proofs.YtefnmfcgjlppaaaDoor.Hand
open Go.RowKit Go.Proofs.YtefnmfcgjlppaaaDoorW.PrintWords Go.Proofs.YtefnmfcgjlppaaaDoorW.PrintLast Go.Proofs.YtefnmfcgjlppaaaDoorW.PrintMore
set_option linter.unusedVariables false
set_option linter.unusedSimpArgs false
/-- The seven words of kinds lie in the variable's cells. -/
structure Wds (w : World) : Prop where
  c0 : w.cell? ⟨0, 0, none⟩ = some (.string ⟨#[112, 105, 99, 107]⟩)
  c1 : w.cell? ⟨0, 1, none⟩ = some (.string ⟨#[114, 101, 119, 111, 114, 100]⟩)
  c2 : w.cell? ⟨0, 2, none⟩ = some (.string ⟨#[101, 100, 105, 116]⟩)
  c3 : w.cell? ⟨0, 3, none⟩ = some (.string ⟨#[115, 113, 117, 97, 115, 104]⟩)
  c4 : w.cell? ⟨0, 4, none⟩ = some (.string ⟨#[102, 105, 120, 117, 112]⟩)
  c5 : w.cell? ⟨0, 5, none⟩ = some (.string ⟨#[100, 114, 111, 112]⟩)
  c6 : w.cell? ⟨0, 6, none⟩ = some (.string ⟨#[98, 114, 101, 97, 107]⟩)
theorem Wds.below {w w' : World} (h : Wds w) (hb : Below w.heap.size w w') : Wds w' :=
  have h0 : (0 : Nat) < w.heap.size := World.block_lt_of_cell? w _ h.c0
  ⟨(hb.cell h0).trans h.c0, (hb.cell h0).trans h.c1, (hb.cell h0).trans h.c2, (hb.cell h0).trans h.c3, (hb.cell h0).trans h.c4, (hb.cell h0).trans h.c5, (hb.cell h0).trans h.c6⟩
def kindT : List (List UInt8 × List UInt8) := [([112, 105, 99, 107], [112]), ([114, 101, 119, 111, 114, 100], [114]), ([101, 100, 105, 116], [101]), ([115, 113, 117, 97, 115, 104], [115]), ([102, 105, 120, 117, 112], [102]), ([100, 114, 111, 112], [100]), ([98, 114, 101, 97, 107], [98])]
/-- The kind that a word says: the first row whose word or short word it is. -/
def kindL (s : ByteArray) : List (List UInt8 × List UInt8) → Int → Int
  | [], _ => 0
  | x :: l, i => if (s.toList == x.1) = true ∨ (s.toList == x.2) = true then i + 1 else kindL s l (i + 1)
def kindQ (s : ByteArray) : Int := kindL s kindT 0
/-- The head of the loop behind k words: none of them was it. -/
def KindRel (w : World) (s : ByteArray) (r : Int) (kv : Value) (wr : World) : Prop :=
  ∃ (k : Nat) (i : Int), kv = .int .i64 i ∧ i = k ∧ k ≤ 7 ∧ kindL s (kindT.drop k) i = r ∧ wr = w
def wordsV : Value := .agg #[.string ⟨#[112, 105, 99, 107]⟩, .string ⟨#[114, 101, 119, 111, 114, 100]⟩, .string ⟨#[101, 100, 105, 116]⟩, .string ⟨#[115, 113, 117, 97, 115, 104]⟩, .string ⟨#[102, 105, 120, 117, 112]⟩, .string ⟨#[100, 114, 111, 112]⟩, .string ⟨#[98, 114, 101, 97, 107]⟩]
theorem words_at0 (w : World) : (Instr.index 60 wordsV (.int .i64 0)).run Tryd.prog w = .ok (.string ⟨#[112, 105, 99, 107]⟩) w := by rfl
theorem words_at1 (w : World) : (Instr.index 60 wordsV (.int .i64 1)).run Tryd.prog w = .ok (.string ⟨#[114, 101, 119, 111, 114, 100]⟩) w := by rfl
theorem words_at2 (w : World) : (Instr.index 60 wordsV (.int .i64 2)).run Tryd.prog w = .ok (.string ⟨#[101, 100, 105, 116]⟩) w := by rfl
theorem words_at3 (w : World) : (Instr.index 60 wordsV (.int .i64 3)).run Tryd.prog w = .ok (.string ⟨#[115, 113, 117, 97, 115, 104]⟩) w := by rfl
theorem words_at4 (w : World) : (Instr.index 60 wordsV (.int .i64 4)).run Tryd.prog w = .ok (.string ⟨#[102, 105, 120, 117, 112]⟩) w := by rfl
theorem words_at5 (w : World) : (Instr.index 60 wordsV (.int .i64 5)).run Tryd.prog w = .ok (.string ⟨#[100, 114, 111, 112]⟩) w := by rfl
theorem words_at6 (w : World) : (Instr.index 60 wordsV (.int .i64 6)).run Tryd.prog w = .ok (.string ⟨#[98, 114, 101, 97, 107]⟩) w := by rfl
set_option maxHeartbeats 4000000 in
set_option maxRecDepth 100000 in
theorem kind_any (s : ByteArray) (w : World) (hW : Wds w) :
    Calls Tryd.prog 45 #[.string s] w fun e w' => e = .returned (.int .i64 (kindQ s)) ∧ Drawn0 w w' := by
  obtain ⟨c0, c1, c2, c3, c4, c5, c6⟩ := hW
  obtain ⟨r, hr⟩ : ∃ r, kindQ s = r := ⟨_, rfl⟩
  rw [hr]
  have HR := Lib.hid hr
  clear hr
  have i0 := words_at0 w
  have i1 := words_at1 w
  have i2 := words_at2 w
  have i3 := words_at3 w
  have i4 := words_at4 w
  have i5 := words_at5 w
  have i6 := words_at6 w
  go_enter Tryd.func45, Tryd.ntmps45
  go_wp2
  clear c0 c1 c2 c3 c4 c5 c6
  rw [show (Value.agg #[.string ⟨#[112, 105, 99, 107]⟩, .string ⟨#[114, 101, 119, 111, 114, 100]⟩, .string ⟨#[101, 100, 105, 116]⟩, .string ⟨#[115, 113, 117, 97, 115, 104]⟩, .string ⟨#[102, 105, 120, 117, 112]⟩, .string ⟨#[100, 114, 111, 112]⟩, .string ⟨#[98, 114, 101, 97, 107]⟩]) = wordsV from rfl]
  generalize wordsV = V at *
  go_loopw [7] (fun kv wr => KindRel w s r kv wr) (fun kv _ => 7 - (intOf kv).toNat)
  case atStart => exact ⟨0, 0, rfl, rfl, by omega, HR.out, rfl⟩
  case round =>
    clear HR
    obtain ⟨k, i, rfl, hi, hk, hr, rfl⟩ := hrel
    by_cases e0 : k = 0
    · subst e0
      obtain rfl : i = 0 := by omega
      clear hi hk i1 i2 i3 i4 i5 i6
      simp only [kindT, List.drop_succ_cons, List.drop_zero, kindL] at hr
      by_cases h1 : (s.toList == [112, 105, 99, 107]) = true
      · rw [if_pos (Or.inl h1)] at hr
        subst hr
        go_wp2
        go_ret
        exact ⟨rfl, .refl _⟩
      · by_cases h2 : (s.toList == [112]) = true
        · rw [if_pos (Or.inr h2)] at hr
          subst hr
          replace h1 := Bool.eq_false_iff.mpr h1
          have h3 : (s.toList == ((⟨#[112, 105, 99, 107]⟩ : ByteArray).extract 0 1).toList) = true := by rw [show ((⟨#[112, 105, 99, 107]⟩ : ByteArray).extract 0 1).toList = [112] by rw [ByteArray.toList_eq]; rfl]; exact h2
          go_wp2
          go_ret
          exact ⟨rfl, .refl _⟩
        · rw [if_neg (fun h => h.elim h1 h2)] at hr
          replace h1 := Bool.eq_false_iff.mpr h1
          replace h2 := Bool.eq_false_iff.mpr h2
          have h3 : (s.toList == ((⟨#[112, 105, 99, 107]⟩ : ByteArray).extract 0 1).toList) = false := by rw [show ((⟨#[112, 105, 99, 107]⟩ : ByteArray).extract 0 1).toList = [112] by rw [ByteArray.toList_eq]; rfl]; exact h2
          have HR := Lib.hid hr
          clear hr
          go_wp2
          refine ⟨⟨1, 1, rfl, rfl, by omega, ?_, rfl⟩, by simp [intOf]⟩
          simp only [kindT, List.drop_succ_cons, List.drop_zero]
          exact HR.out
    by_cases e1 : k = 1
    · subst e1
      obtain rfl : i = 1 := by omega
      clear hi hk i0 i2 i3 i4 i5 i6
      simp only [kindT, List.drop_succ_cons, List.drop_zero, kindL] at hr
      by_cases h1 : (s.toList == [114, 101, 119, 111, 114, 100]) = true
      · rw [if_pos (Or.inl h1)] at hr
        subst hr
        go_wp2
        go_ret
        exact ⟨rfl, .refl _⟩
      · by_cases h2 : (s.toList == [114]) = true
        · rw [if_pos (Or.inr h2)] at hr
          subst hr
          replace h1 := Bool.eq_false_iff.mpr h1
          have h3 : (s.toList == ((⟨#[114, 101, 119, 111, 114, 100]⟩ : ByteArray).extract 0 1).toList) = true := by rw [show ((⟨#[114, 101, 119, 111, 114, 100]⟩ : ByteArray).extract 0 1).toList = [114] by rw [ByteArray.toList_eq]; rfl]; exact h2
          go_wp2
          go_ret
          exact ⟨rfl, .refl _⟩
        · rw [if_neg (fun h => h.elim h1 h2)] at hr
          replace h1 := Bool.eq_false_iff.mpr h1
          replace h2 := Bool.eq_false_iff.mpr h2
          have h3 : (s.toList == ((⟨#[114, 101, 119, 111, 114, 100]⟩ : ByteArray).extract 0 1).toList) = false := by rw [show ((⟨#[114, 101, 119, 111, 114, 100]⟩ : ByteArray).extract 0 1).toList = [114] by rw [ByteArray.toList_eq]; rfl]; exact h2
          have HR := Lib.hid hr
          clear hr
          go_wp2
          refine ⟨⟨2, 2, rfl, rfl, by omega, ?_, rfl⟩, by simp [intOf]⟩
          simp only [kindT, List.drop_succ_cons, List.drop_zero]
          exact HR.out
    by_cases e2 : k = 2
    · subst e2
      obtain rfl : i = 2 := by omega
      clear hi hk i0 i1 i3 i4 i5 i6
      simp only [kindT, List.drop_succ_cons, List.drop_zero, kindL] at hr
      by_cases h1 : (s.toList == [101, 100, 105, 116]) = true
      · rw [if_pos (Or.inl h1)] at hr
        subst hr
        go_wp2
        go_ret
        exact ⟨rfl, .refl _⟩
      · by_cases h2 : (s.toList == [101]) = true
        · rw [if_pos (Or.inr h2)] at hr
          subst hr
          replace h1 := Bool.eq_false_iff.mpr h1
          have h3 : (s.toList == ((⟨#[101, 100, 105, 116]⟩ : ByteArray).extract 0 1).toList) = true := by rw [show ((⟨#[101, 100, 105, 116]⟩ : ByteArray).extract 0 1).toList = [101] by rw [ByteArray.toList_eq]; rfl]; exact h2
          go_wp2
          go_ret
          exact ⟨rfl, .refl _⟩
        · rw [if_neg (fun h => h.elim h1 h2)] at hr
          replace h1 := Bool.eq_false_iff.mpr h1
          replace h2 := Bool.eq_false_iff.mpr h2
          have h3 : (s.toList == ((⟨#[101, 100, 105, 116]⟩ : ByteArray).extract 0 1).toList) = false := by rw [show ((⟨#[101, 100, 105, 116]⟩ : ByteArray).extract 0 1).toList = [101] by rw [ByteArray.toList_eq]; rfl]; exact h2
          have HR := Lib.hid hr
          clear hr
          go_wp2
          refine ⟨⟨3, 3, rfl, rfl, by omega, ?_, rfl⟩, by simp [intOf]⟩
          simp only [kindT, List.drop_succ_cons, List.drop_zero]
          exact HR.out
    by_cases e3 : k = 3
    · subst e3
      obtain rfl : i = 3 := by omega
      clear hi hk i0 i1 i2 i4 i5 i6
      simp only [kindT, List.drop_succ_cons, List.drop_zero, kindL] at hr
      by_cases h1 : (s.toList == [115, 113, 117, 97, 115, 104]) = true
      · rw [if_pos (Or.inl h1)] at hr
        subst hr
        go_wp2
        go_ret
        exact ⟨rfl, .refl _⟩
      · by_cases h2 : (s.toList == [115]) = true
        · rw [if_pos (Or.inr h2)] at hr
          subst hr
          replace h1 := Bool.eq_false_iff.mpr h1
          have h3 : (s.toList == ((⟨#[115, 113, 117, 97, 115, 104]⟩ : ByteArray).extract 0 1).toList) = true := by rw [show ((⟨#[115, 113, 117, 97, 115, 104]⟩ : ByteArray).extract 0 1).toList = [115] by rw [ByteArray.toList_eq]; rfl]; exact h2
          go_wp2
          go_ret
          exact ⟨rfl, .refl _⟩
        · rw [if_neg (fun h => h.elim h1 h2)] at hr
          replace h1 := Bool.eq_false_iff.mpr h1
          replace h2 := Bool.eq_false_iff.mpr h2
          have h3 : (s.toList == ((⟨#[115, 113, 117, 97, 115, 104]⟩ : ByteArray).extract 0 1).toList) = false := by rw [show ((⟨#[115, 113, 117, 97, 115, 104]⟩ : ByteArray).extract 0 1).toList = [115] by rw [ByteArray.toList_eq]; rfl]; exact h2
          have HR := Lib.hid hr
          clear hr
          go_wp2
          refine ⟨⟨4, 4, rfl, rfl, by omega, ?_, rfl⟩, by simp [intOf]⟩
          simp only [kindT, List.drop_succ_cons, List.drop_zero]
          exact HR.out
    by_cases e4 : k = 4
    · subst e4
      obtain rfl : i = 4 := by omega
      clear hi hk i0 i1 i2 i3 i5 i6
      simp only [kindT, List.drop_succ_cons, List.drop_zero, kindL] at hr
      by_cases h1 : (s.toList == [102, 105, 120, 117, 112]) = true
      · rw [if_pos (Or.inl h1)] at hr
        subst hr
        go_wp2
        go_ret
        exact ⟨rfl, .refl _⟩
      · by_cases h2 : (s.toList == [102]) = true
        · rw [if_pos (Or.inr h2)] at hr
          subst hr
          replace h1 := Bool.eq_false_iff.mpr h1
          have h3 : (s.toList == ((⟨#[102, 105, 120, 117, 112]⟩ : ByteArray).extract 0 1).toList) = true := by rw [show ((⟨#[102, 105, 120, 117, 112]⟩ : ByteArray).extract 0 1).toList = [102] by rw [ByteArray.toList_eq]; rfl]; exact h2
          go_wp2
          go_ret
          exact ⟨rfl, .refl _⟩
        · rw [if_neg (fun h => h.elim h1 h2)] at hr
          replace h1 := Bool.eq_false_iff.mpr h1
          replace h2 := Bool.eq_false_iff.mpr h2
          have h3 : (s.toList == ((⟨#[102, 105, 120, 117, 112]⟩ : ByteArray).extract 0 1).toList) = false := by rw [show ((⟨#[102, 105, 120, 117, 112]⟩ : ByteArray).extract 0 1).toList = [102] by rw [ByteArray.toList_eq]; rfl]; exact h2
          have HR := Lib.hid hr
          clear hr
          go_wp2
          refine ⟨⟨5, 5, rfl, rfl, by omega, ?_, rfl⟩, by simp [intOf]⟩
          simp only [kindT, List.drop_succ_cons, List.drop_zero]
          exact HR.out
    by_cases e5 : k = 5
    · subst e5
      obtain rfl : i = 5 := by omega
      clear hi hk i0 i1 i2 i3 i4 i6
      simp only [kindT, List.drop_succ_cons, List.drop_zero, kindL] at hr
      by_cases h1 : (s.toList == [100, 114, 111, 112]) = true
      · rw [if_pos (Or.inl h1)] at hr
        subst hr
        go_wp2
        go_ret
        exact ⟨rfl, .refl _⟩
      · by_cases h2 : (s.toList == [100]) = true
        · rw [if_pos (Or.inr h2)] at hr
          subst hr
          replace h1 := Bool.eq_false_iff.mpr h1
          have h3 : (s.toList == ((⟨#[100, 114, 111, 112]⟩ : ByteArray).extract 0 1).toList) = true := by rw [show ((⟨#[100, 114, 111, 112]⟩ : ByteArray).extract 0 1).toList = [100] by rw [ByteArray.toList_eq]; rfl]; exact h2
          go_wp2
          go_ret
          exact ⟨rfl, .refl _⟩
        · rw [if_neg (fun h => h.elim h1 h2)] at hr
          replace h1 := Bool.eq_false_iff.mpr h1
          replace h2 := Bool.eq_false_iff.mpr h2
          have h3 : (s.toList == ((⟨#[100, 114, 111, 112]⟩ : ByteArray).extract 0 1).toList) = false := by rw [show ((⟨#[100, 114, 111, 112]⟩ : ByteArray).extract 0 1).toList = [100] by rw [ByteArray.toList_eq]; rfl]; exact h2
          have HR := Lib.hid hr
          clear hr
          go_wp2
          refine ⟨⟨6, 6, rfl, rfl, by omega, ?_, rfl⟩, by simp [intOf]⟩
          simp only [kindT, List.drop_succ_cons, List.drop_zero]
          exact HR.out
    by_cases e6 : k = 6
    · subst e6
      obtain rfl : i = 6 := by omega
      clear hi hk i0 i1 i2 i3 i4 i5
      simp only [kindT, List.drop_succ_cons, List.drop_zero, kindL] at hr
      by_cases h1 : (s.toList == [98, 114, 101, 97, 107]) = true
      · rw [if_pos (Or.inl h1)] at hr
        subst hr
        go_wp2
        go_ret
        exact ⟨rfl, .refl _⟩
      · by_cases h2 : (s.toList == [98]) = true
        · rw [if_pos (Or.inr h2)] at hr
          subst hr
          replace h1 := Bool.eq_false_iff.mpr h1
          go_wp2
          go_ret
          exact ⟨rfl, .refl _⟩
        · rw [if_neg (fun h => h.elim h1 h2)] at hr
          replace h1 := Bool.eq_false_iff.mpr h1
          replace h2 := Bool.eq_false_iff.mpr h2
          have HR := Lib.hid hr
          clear hr
          go_wp2
          refine ⟨⟨7, 7, rfl, rfl, by omega, ?_, rfl⟩, by simp [intOf]⟩
          simp only [kindT, List.drop_succ_cons, List.drop_zero]
          exact HR.out
    obtain rfl : k = 7 := by omega
    obtain rfl : i = 7 := by omega
    clear i0 i1 i2 i3 i4 i5 i6 e0 e1 e2 e3 e4 e5 e6 hi hk
    simp only [kindT, List.drop_succ_cons, List.drop_zero, kindL] at hr
    subst hr
    go_wp2
    go_ret
    exact ⟨rfl, .refl _⟩
def todo_kind.f (a0 : ByteArray) : Option Int := some (kindQ a0)
theorem todo_kind.calls (a0 : ByteArray) (r : Int) (w : World) (hWd : Wds w) (h : todo_kind.f a0 = some r) :
    Calls Tryd.prog 45 #[.string a0] w fun e w' => e = .returned (.int .i64 r) ∧ Drawn0 w w' := by
  simp only [todo_kind.f, Option.some.injEq] at h
  subst h
  exact kind_any a0 w hWd
end Go.Proofs.YtefnmfcgjlppaaaDoor.Hand
/- slices.Clone of instructions, by hand. -/
namespace Go.Proofs.YtefnmfcgjlppaaaDoor.Hand
open Go.RowKit Go.Proofs.YtefnmfcgjlppaaaDoorW.PrintWords Go.Proofs.YtefnmfcgjlppaaaDoorW.PrintLast Go.Proofs.YtefnmfcgjlppaaaDoorW.PrintMore
open Go.Proofs.YtefnmfcgjlppaaaDoor.PTd
set_option linter.unusedVariables false
set_option linter.unusedSimpArgs false
set_option maxHeartbeats 2000000 in
set_option maxRecDepth 100000 in
theorem clone_any (A0 : Option Addr) (c0 : Nat) (l : List S34) (w : World) (hr0 : Kd.C k34 w A0 l.length l) (hl : l.length ≤ 1000000000) :
    Calls Tryd.prog 26 #[.slice A0 l.length c0] w fun e w' => ∃ v0_ : Value, e = .returned (v0_) ∧ Kd.R k34 34 w' w.heap.size (fun _ => True) v0_ l ∧ Below w.heap.size w w' := by
  have HR0 := Aside0.mk hr0
  clear hr0
  cases A0 with
  | none =>
    obtain rfl : l = [] := by
      cases l with
      | nil => rfl
      | cons x l =>
        obtain ⟨ad, e, _⟩ := at_T34 HR0.out 0 (by omega) (by simp)
        cases e
    have hE : ∀ n, (binOp BinOp.eql 23 (Value.slice none n c0) (Value.slice none 0 0)).run Tryd.prog w = .ok (.bool true) w := fun n => by rfl
    have hE0 := hE (([] : List S34).length)
    simp only [List.length_nil] at hE0
    go_enter Tryd.func26, Tryd.ntmps26
    go_wp2
    go_ret
    exact ⟨_, rfl, Kd.R_nil _ _ _ _ _, Below.refl _ _⟩
  | some ad =>
    have hE0 : (binOp BinOp.eql 23 (Value.slice (some ad) l.length c0) (Value.slice none 0 0)).run Tryd.prog w = .ok (.bool false) w := by rfl
    go_enter Tryd.func26, Tryd.ntmps26
    have hO : Kd.R k34 34 (w.alloc (.cells #[] 34)) w.heap.size (fun _ => True) (.slice (some ⟨w.heap.size, 0, none⟩) 0 0) [] :=
      ⟨fun _ _ => trivial, [], ⟨by simp, Or.inr ⟨w.heap.size, 0, #[], rfl, Nat.le_refl _, heap_alloc_new w _, Nat.le_refl _, Nat.zero_le _, by simp, by simp⟩⟩, by simp [Reps]⟩
    have hB : Below w.heap.size w (w.alloc (.cells #[] 34)) := (Below.refl _ _).alloc (Nat.le_refl _) _
    have hC := Kd.C_alloc HR0.out (.cells #[] 34)
    have hz : w.heap.size ≤ (w.alloc (.cells #[] 34)).heap.size := by simp
    have hb : (([] : List S34).length + l.length) * 40 ≤ 140737488355328 := by simp; omega
    have HO := Lib.hid hO
    have HB := Lib.hid hB
    have HC := Lib.hid hC
    have HZ := Lib.hid hz
    have HBB := Lib.hid hb
    clear hO hB hC hz hb hl
    go_wp2_with (at_builtin; refine Kd.R_append_rows k34 (w0 := w) w.heap.size rfl _ _ 23 34 (.agg #[.int .i64 0, .string ⟨#[]⟩, .string ⟨#[]⟩]) 40 rfl Tryd.underlying23 info34 rfl (by decide) (by decide) (.slice (some ⟨w.heap.size, 0, none⟩) 0 0) [] l (some ad) l.length c0 (fun _ => True) (fun _ => False) rfl rfl HO.out HC.out (fun _ _ h => h) (fun _ h => h.elim) (fun _ _ => trivial) HB.out HZ.out HBB.out ?_; intro v1 w1 hR1 hB1 _ _; have HR1 := Lib.hid hR1; have HB1 := Lib.hid hB1; clear hR1 hB1)
    go_ret
    exact ⟨_, rfl, HR1.out, HB1.out⟩
def api_Todo_26.f (l0 : List S34) : Option (List S34) := if l0.length ≤ 1000000000 then some l0 else none
theorem api_Todo_26.calls (A0 : Option Addr) (c0 : Nat) (l0 : List S34) (r : List S34) (w : World) (hr0 : Kd.C k34 w A0 l0.length l0) (hc0 : l0.length ≤ c0) (h : api_Todo_26.f l0 = some r) :
    Calls Tryd.prog 26 #[.slice A0 l0.length c0] w fun e w' => ∃ v0_ : Value, e = .returned (v0_) ∧ Kd.R k34 34 w' w.heap.size (fun _ => True) v0_ r ∧ Below w.heap.size w w' := by
  unfold api_Todo_26.f at h
  split at h
  · simp only [Option.some.injEq] at h
    subst h
    exact clone_any A0 c0 l0 w hr0 (by assumption)
  · cases h
end Go.Proofs.YtefnmfcgjlppaaaDoor.Hand
