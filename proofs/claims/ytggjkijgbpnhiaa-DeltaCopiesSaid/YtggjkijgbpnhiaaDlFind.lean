/- delta.runs$1, by hand: the longest run of the base at a string's begin. -/
import Derived.Test.YtggjkijgbpnhiaaDlRuns
namespace Go.Proofs.Ytggjkijgbpnhiaa.Hand
open Go.Maps Go.ChangeShapes Go.WideElems Go.MapKept
open Go.RowKit Go.Proofs.YtggjkijgbpnhiaaW.PrintWords Go.Proofs.YtggjkijgbpnhiaaW.PrintLast Go.Proofs.YtggjkijgbpnhiaaW.PrintMore
open Go.Proofs.Ytggjkijgbpnhiaa.PDl
set_option linter.unusedVariables false
set_option linter.unusedSimpArgs false

/-- How far the base from p on and t go on alike; k: what is alike for sure. -/
def matG (s t : ByteArray) (p : Int) : Nat → Int → Int
  | 0, k => k
  | r + 1, k => if p + k < (s.size : Int) ∧ k < (t.size : Int) ∧ bt s (p + k) = bt t k then matG s t p r (k + 1) else k
def matN (s t : ByteArray) (p : Int) : Int := matG s t p t.size 8
theorem matG_range (s t : ByteArray) (p : Int) (r : Nat) : ∀ k, k ≤ matG s t p r k ∧ (k ≤ t.size → matG s t p r k ≤ t.size) := by
  induction r with
  | zero => intro k; simp [matG]
  | succ r ih =>
    intro k
    rw [matG]
    split
    · have := ih (k + 1); exact ⟨by omega, fun h => this.2 (by omega)⟩
    · exact ⟨by omega, fun h => h⟩
def findL (s t : ByteArray) : List Int → Int → Int → Int × Int
  | [], a, n => (a, n)
  | p :: zs, a, n => if n < matN s t p then (if matN s t p = t.size then (p, matN s t p) else findL s t zs p (matN s t p)) else (if n = t.size then (a, n) else findL s t zs a n)
def findS (s : ByteArray) (m : Nat) (t : ByteArray) : Int × Int := if t.size < 8 then (0, 0) else findL s t (posS s m (t.extract 0 8)) 0 0

def FindRel (w : World) (s t : ByteArray) (zs : List Int) (R : Int × Int) (av nv iv : Value) (wr : World) : Prop :=
  ∃ (i : Nat) (a n : Int), av = .int .i64 a ∧ nv = .int .i64 n ∧ iv = .int .i64 i ∧ i ≤ zs.length ∧ 0 ≤ a ∧ a ≤ 1000000000 ∧ 0 ≤ n ∧ n ≤ t.size ∧ findL s t (zs.drop i) a n = R ∧ Below w.heap.size w wr
def MatRel (w : World) (s t : ByteArray) (p K : Int) (kv : Value) (wr : World) : Prop :=
  ∃ (r : Nat) (k : Int), kv = .int .i64 k ∧ 8 ≤ k ∧ k ≤ t.size ∧ t.size ≤ k + r ∧ matG s t p r k = K ∧ Below w.heap.size w wr

set_option maxHeartbeats 4000000 in
set_option maxRecDepth 100000 in
theorem find_any (P M b0 Bx : Nat) (s t : ByteArray) (m : Nat) (w : World) (hz : s.size ≤ 1000000000) (htz : t.size ≤ 1000000000) (hm : m ≤ s.size) (hF : Plc w P M b0 Bx s m) :
    Calls Try.prog 36 #[.string t, .pointer (some ⟨P, 0, none⟩), .pointer (some ⟨Bx, 0, none⟩)] w fun e w' => e = .returned (.tuple #[.int .i64 (findS s m t).1, .int .i64 (findS s m t).2]) ∧ Below w.heap.size w w' := by
  unfold findS
  by_cases h8 : t.size < 8
  · have h8d : decide ((t.size : Int) < 8) = true := by simp; omega
    have H8 := Lib.hid h8
    clear h8
    go_enter Try.func36, Try.ntmps36
    go_wp2
    go_ret2
    exact ⟨by simp [H8.out], Below.refl _ _⟩
  rw [if_neg h8]
  obtain ⟨mm, D, hmm, hp, hx, hown, hD, hwas, h1, h2, h3, hbs⟩ := hF
  have c1 := cell_of_one hp
  have cx := cell_of_one hx
  have h8d : decide ((t.size : Int) < 8) = false := by simp; omega
  have h8l : (8 : Int) ≤ t.size := by omega
  have hmx : mm < maxLen := by unfold maxLen; omega
  have hk8 : (t.extract 0 8).size = 8 := by rw [ByteArray.size_extract]; omega
  have hkey : keyOf Try.prog 9 (.string (t.extract 0 8)) = some (.string (t.extract 0 8).data.toList) := Go.WideMaps.keyOf_string_mk (P := Try.prog) Try.underlying9 (s := t.extract 0 8) (by rw [hk8]; unfold maxLen; omega)
  obtain ⟨v, zs, hlk, hat, hoi, hzl, _⟩ := (hown.kept (w' := w.drew) (grown_of_below (below_drew1 (Below.refl _ _)) none) (by simp) (fun es clock hb x hx => by cases x.val.ownBlock <;> simp)).at (string_keyed Try.underlying9) Try.underlying68 (zeroIs _) hmx hkey
  have hzs := hwas.got hat hoi
  rw [← hzs]
  have hm0 : ∀ x ∈ zs, 0 ≤ x ∧ x < m := by rw [hzs]; exact posS_mem s m _
  have hzlen : zs.length ≤ s.size := by rw [hzs]; have := posS_length s m (t.extract 0 8); omega
  clear hown hkey hat hzs hwas hD hzl hk8
  obtain ⟨R, hR⟩ : ∃ R, findL s t zs 0 0 = R := ⟨_, rfl⟩
  rw [hR]
  have HR := Lib.hid hR
  have HM0 := Lib.hid hm0
  clear hR hm0
  rcases hoi.1.2 with ⟨rfl, hnil⟩ | ⟨g, cap, cur, rfl, hg⟩
  · have hz0 : zs = [] := List.eq_nil_of_length_eq_zero hnil
    have hr0 : R = (0, 0) := by rw [← HR.out, hz0]; rfl
    have HR0 := Lib.hid hr0
    clear hnil hz0 hr0 hoi
    go_enter Try.func36, Try.ntmps36
    go_wp2
    go_region
    all_goals go_wp2
    all_goals (refine wp_loop_rounds 1 ?_; rw [rounds_succ])
    all_goals go_wp2
    all_goals go_ret2
    all_goals (rw [HR0.out]; exact ⟨rfl, below_drew1 (Below.refl _ _)⟩)
  · have hcell : ∀ j, j < zs.length → w.cell? ⟨g, j, none⟩ = some (.int .i64 (zs.getD j 0)) := fun j hj => by
      have := hoi.1.cellAt j (by omega)
      rw [List.getElem?_map, List.getElem?_eq_getElem hj] at this
      rw [List.getD_eq_getElem?_getD, List.getElem?_eq_getElem hj]
      exact this
    have HC := Lib.hid hcell
    clear hcell hoi hg
    go_enter Try.func36, Try.ntmps36
    go_wp2
    go_region
    all_goals go_wp2
    go_loopw [4, 5, 7, 8, 17] (fun av nv _ _ iv wr => FindRel w s t zs R av nv iv wr) (fun _ _ _ _ iv _ => zs.length - (intOf iv).toNat)
    case atStart => exact ⟨0, 0, 0, rfl, rfl, rfl, Nat.zero_le _, by omega, by omega, by omega, by omega, by rw [List.drop_zero]; exact HR.out, below_drew1 (Below.refl _ _)⟩
    case round =>
      obtain ⟨i, a, n, rfl, rfl, rfl, hi, ha0, ha1, hn0, hn1, hL, hB⟩ := hrel
      have HL := Lib.hid hL
      clear hL
      have hz9 : n ≤ 1000000000 := by omega
      by_cases hlt : i < zs.length
      · have hlt' : (i : Int) < zs.length := by omega
        have hc1 := (hB.cell (p := ⟨g, i, none⟩) (World.block_lt_of_cell? _ _ (HC.out i hlt))).trans (HC.out i hlt)
        have hcx := (hB.cell (p := ⟨Bx, 0, none⟩) (World.block_lt_of_cell? _ _ cx)).trans cx
        have hpr := HM0.out (zs.getD i 0) (by rw [List.getD_eq_getElem?_getD, List.getElem?_eq_getElem hlt]; exact List.getElem_mem _)
        have hd : zs.drop i = zs.getD i 0 :: zs.drop (i + 1) := by
          rw [List.drop_eq_getElem_cons hlt, List.getD_eq_getElem?_getD, List.getElem?_eq_getElem hlt]; rfl
        have hL2 := HL.out
        rw [hd, findL] at hL2
        generalize hpp : zs.getD i 0 = p at *
        obtain ⟨p0, p1⟩ := hpr
        have HL2 := Lib.hid hL2
        clear hL2 hd hpp HL
        have hmr := matG_range s t p t.size 8
        have hp9 : p ≤ 1000000000 := by omega
        go_wp2
        go_loopw [8] (fun kv wq => MatRel w s t p (matN s t p) kv wq) (fun kv _ => (t.size - intOf kv).toNat)
        case atStart => exact ⟨t.size, 8, rfl, by omega, by omega, by omega, rfl, hB⟩
        case round =>
          rename World => wq
          obtain ⟨r, k, rfl, hk8, hkt, hkr, hK, hBq⟩ := hrel
          have HK := Lib.hid hK
          clear hK hcx hc1
          have hcx := (hBq.cell (p := ⟨Bx, 0, none⟩) (World.block_lt_of_cell? _ _ cx)).trans cx
          obtain ⟨q, hq⟩ : ∃ q, p + k = q := ⟨_, rfl⟩
          have hqw : IntKind.i64.wrap (p + k) = q := by rw [← hq]; exact IntWalk.i64_in _ (by omega)
          have hq0 : 0 ≤ q := by omega
          have hq1 : q ≤ 3000000000 := by omega
          by_cases hA : q < (s.size : Int)
          · have A1 : decide (q < (s.size : Int)) = true := decide_eq_true hA
            by_cases hBB : k < (t.size : Int)
            · have B1 : decide (k < (t.size : Int)) = true := decide_eq_true hBB
              by_cases hC : bt s q = bt t k
              · have C1 : (bt s q == bt t k) = true := beq_iff_eq.2 hC
                obtain ⟨r, rfl⟩ : ∃ x, r = x + 1 := ⟨r - 1, by omega⟩
                have hK2 := HK.out
                rw [matG, if_pos ⟨by omega, hBB, by rw [hq]; exact hC⟩] at hK2
                have HK2 := Lib.hid hK2
                have hx1 := bt_at s q
                have hx2 := bt_at t k
                have z1 : (0 ≤ q) = True := eq_true hq0
                have z2 : (q < (s.size : Int)) = True := eq_true hA
                have z3 : (0 ≤ k) = True := eq_true (by omega)
                have z4 : (k < (t.size : Int)) = True := eq_true hBB
                have hk1 : k + 1 ≤ (t.size : Int) := by omega
                clear hK2 hC HK hq hA hBB
                go_wp2
                go_quiet (fail)
                go_wp2
                go_roundw
                case rel => exact ⟨r, k + 1, rfl, by omega, by omega, by omega, HK2.out, pw_below_drewN hBq _⟩
                case measure => simp [intOf]; omega
              · have C1 : (bt s q == bt t k) = false := beq_eq_false_iff_ne.2 hC
                have hKe : matN s t p = k := by
                  rw [← HK.out]
                  cases r with
                  | zero => rfl
                  | succ r => rw [matG, if_neg (fun h => hC (by rw [← hq]; exact h.2.2))]
                have hx1 := bt_at s q
                have hx2 := bt_at t k
                have z1 : (0 ≤ q) = True := eq_true hq0
                have z2 : (q < (s.size : Int)) = True := eq_true hA
                have z3 : (0 ≤ k) = True := eq_true (by omega)
                have z4 : (k < (t.size : Int)) = True := eq_true hBB
                have hk1 : k + 1 ≤ (t.size : Int) := by omega
                clear hC hq hA hBB
                have HKe := Lib.hid hKe
                clear hKe HK
                have hk2 : k ≤ t.size := hkt
                by_cases hgt : n < k
                · have g1 : decide (n < k) = true := by simp; omega
                  have hL3 := HL2.out
                  rw [HKe.out, if_pos hgt] at hL3
                  by_cases hfull : k = t.size
                  · have g2 : (k == (t.size : Int)) = true := by simpa using hfull
                    rw [if_pos hfull] at hL3
                    have HL3 := Lib.hid hL3
                    clear hL3 hfull hgt
                    go_wp2
                    go_quiet (fail)
                    go_wp2
                    go_ret2
                    exact ⟨by rw [← HL3.out]; try rfl, pw_below_drewN hBq _⟩
                  · have g2 : (k == (t.size : Int)) = false := by simpa using hfull
                    rw [if_neg hfull] at hL3
                    have HL3 := Lib.hid hL3
                    clear hL3 hfull hgt
                    go_wp2
                    go_quiet (fail)
                    go_wp2
                    go_roundw
                    case rel => exact ⟨i + 1, p, k, rfl, rfl, by simp, by omega, p0, by omega, by omega, by omega, HL3.out, pw_below_drewN hBq _⟩
                    case measure => simp [intOf]; omega
                · have g1 : decide (n < k) = false := by simp; omega
                  have hL3 := HL2.out
                  rw [HKe.out, if_neg hgt] at hL3
                  by_cases hfull : n = t.size
                  · have g2 : (n == (t.size : Int)) = true := by simpa using hfull
                    rw [if_pos hfull] at hL3
                    have HL3 := Lib.hid hL3
                    clear hL3 hfull hgt
                    go_wp2
                    go_quiet (fail)
                    go_wp2
                    go_ret2
                    exact ⟨by rw [← HL3.out]; try rfl, pw_below_drewN hBq _⟩
                  · have g2 : (n == (t.size : Int)) = false := by simpa using hfull
                    rw [if_neg hfull] at hL3
                    have HL3 := Lib.hid hL3
                    clear hL3 hfull hgt
                    go_wp2
                    go_quiet (fail)
                    go_wp2
                    go_roundw
                    case rel => exact ⟨i + 1, a, n, rfl, rfl, by simp, by omega, ha0, ha1, by omega, by omega, HL3.out, pw_below_drewN hBq _⟩
                    case measure => simp [intOf]; omega
            · have B1 : decide (k < (t.size : Int)) = false := decide_eq_false hBB
              have hKe : matN s t p = k := by
                rw [← HK.out]
                cases r with
                | zero => rfl
                | succ r => rw [matG, if_neg (fun h => hBB h.2.1)]
              clear hq hA hBB
              have HKe := Lib.hid hKe
              clear hKe HK
              have hk2 : k ≤ t.size := hkt
              by_cases hgt : n < k
              · have g1 : decide (n < k) = true := by simp; omega
                have hL3 := HL2.out
                rw [HKe.out, if_pos hgt] at hL3
                by_cases hfull : k = t.size
                · have g2 : (k == (t.size : Int)) = true := by simpa using hfull
                  rw [if_pos hfull] at hL3
                  have HL3 := Lib.hid hL3
                  clear hL3 hfull hgt
                  go_wp2
                  go_quiet (fail)
                  go_wp2
                  go_ret2
                  exact ⟨by rw [← HL3.out]; try rfl, pw_below_drewN hBq _⟩
                · have g2 : (k == (t.size : Int)) = false := by simpa using hfull
                  rw [if_neg hfull] at hL3
                  have HL3 := Lib.hid hL3
                  clear hL3 hfull hgt
                  go_wp2
                  go_quiet (fail)
                  go_wp2
                  go_roundw
                  case rel => exact ⟨i + 1, p, k, rfl, rfl, by simp, by omega, p0, by omega, by omega, by omega, HL3.out, pw_below_drewN hBq _⟩
                  case measure => simp [intOf]; omega
              · have g1 : decide (n < k) = false := by simp; omega
                have hL3 := HL2.out
                rw [HKe.out, if_neg hgt] at hL3
                by_cases hfull : n = t.size
                · have g2 : (n == (t.size : Int)) = true := by simpa using hfull
                  rw [if_pos hfull] at hL3
                  have HL3 := Lib.hid hL3
                  clear hL3 hfull hgt
                  go_wp2
                  go_quiet (fail)
                  go_wp2
                  go_ret2
                  exact ⟨by rw [← HL3.out]; try rfl, pw_below_drewN hBq _⟩
                · have g2 : (n == (t.size : Int)) = false := by simpa using hfull
                  rw [if_neg hfull] at hL3
                  have HL3 := Lib.hid hL3
                  clear hL3 hfull hgt
                  go_wp2
                  go_quiet (fail)
                  go_wp2
                  go_roundw
                  case rel => exact ⟨i + 1, a, n, rfl, rfl, by simp, by omega, ha0, ha1, by omega, by omega, HL3.out, pw_below_drewN hBq _⟩
                  case measure => simp [intOf]; omega
          · have A1 : decide (q < (s.size : Int)) = false := decide_eq_false hA
            have hKe : matN s t p = k := by
              rw [← HK.out]
              cases r with
              | zero => rfl
              | succ r => rw [matG, if_neg (fun h => hA (by rw [← hq]; exact h.1))]
            clear hq hA
            have HKe := Lib.hid hKe
            clear hKe HK
            have hk2 : k ≤ t.size := hkt
            by_cases hgt : n < k
            · have g1 : decide (n < k) = true := by simp; omega
              have hL3 := HL2.out
              rw [HKe.out, if_pos hgt] at hL3
              by_cases hfull : k = t.size
              · have g2 : (k == (t.size : Int)) = true := by simpa using hfull
                rw [if_pos hfull] at hL3
                have HL3 := Lib.hid hL3
                clear hL3 hfull hgt
                go_wp2
                go_quiet (fail)
                go_wp2
                go_ret2
                exact ⟨by rw [← HL3.out]; try rfl, pw_below_drewN hBq _⟩
              · have g2 : (k == (t.size : Int)) = false := by simpa using hfull
                rw [if_neg hfull] at hL3
                have HL3 := Lib.hid hL3
                clear hL3 hfull hgt
                go_wp2
                go_quiet (fail)
                go_wp2
                go_roundw
                case rel => exact ⟨i + 1, p, k, rfl, rfl, by simp, by omega, p0, by omega, by omega, by omega, HL3.out, pw_below_drewN hBq _⟩
                case measure => simp [intOf]; omega
            · have g1 : decide (n < k) = false := by simp; omega
              have hL3 := HL2.out
              rw [HKe.out, if_neg hgt] at hL3
              by_cases hfull : n = t.size
              · have g2 : (n == (t.size : Int)) = true := by simpa using hfull
                rw [if_pos hfull] at hL3
                have HL3 := Lib.hid hL3
                clear hL3 hfull hgt
                go_wp2
                go_quiet (fail)
                go_wp2
                go_ret2
                exact ⟨by rw [← HL3.out]; try rfl, pw_below_drewN hBq _⟩
              · have g2 : (n == (t.size : Int)) = false := by simpa using hfull
                rw [if_neg hfull] at hL3
                have HL3 := Lib.hid hL3
                clear hL3 hfull hgt
                go_wp2
                go_quiet (fail)
                go_wp2
                go_roundw
                case rel => exact ⟨i + 1, a, n, rfl, rfl, by simp, by omega, ha0, ha1, by omega, by omega, HL3.out, pw_below_drewN hBq _⟩
                case measure => simp [intOf]; omega
      · obtain rfl : i = zs.length := by omega
        have hge : decide ((zs.length : Int) < zs.length) = false := by simp
        have hL2 := HL.out
        rw [List.drop_eq_nil_of_le (Nat.le_refl _), findL] at hL2
        have HL2 := Lib.hid hL2
        clear hL2 HL
        go_wp2
        go_ret2
        exact ⟨by rw [← HL2.out]; try rfl, hB⟩
end Go.Proofs.Ytggjkijgbpnhiaa.Hand
