/- (*finder).best, by hand: the places of each beginning of four bytes, in a map of slices; the longest run. -/
import Derived.Test.YtmkoajmldbhnbaaBuf
import Derived.Test.YtmkoajmldbhnbaaPSqAx1
import Derived.Maps.OwnRows
import Derived.Maps.GroupsBeside
import Derived.Maps.AppendAt
import Derived.OneCell
import Derived.OwnWalk
import Derived.WalkSpells
import Derived.BigQuiet
import Derived.Deep.QuietTactic
import Derived.Deep.RegionLaw
import Derived.Lib.Hide
import Derived.Deep.AppendLies
namespace Go.Proofs.Ytmkoajmldbhnbaa.Hand
open Go.Maps Go.ChangeShapes
open Go.RowKit Go.Proofs.YtmkoajmldbhnbaaW.PrintWords Go.Proofs.YtmkoajmldbhnbaaW.PrintLast Go.Proofs.YtmkoajmldbhnbaaW.PrintMore
open Go.Proofs.Ytmkoajmldbhnbaa.PSqA
set_option linter.unusedVariables false
set_option linter.unusedSimpArgs false

/-- The places below n at which a beginning stands. -/
def posS (s : ByteArray) : Nat → ByteArray → List Int
  | 0, _ => []
  | n + 1, key => posS s n key ++ (if n + 4 ≤ s.size ∧ s.extract n (n + 4) = key then [(n : Int)] else [])
theorem posS_length (s : ByteArray) (n : Nat) (key : ByteArray) : (posS s n key).length ≤ n := by
  induction n with
  | zero => simp [posS]
  | succ n ih => rw [posS]; split <;> simp <;> omega
theorem posS_mem (s : ByteArray) (n : Nat) (key : ByteArray) : ∀ x ∈ posS s n key, 0 ≤ x ∧ x < n := by
  induction n with
  | zero => intro x h; simp [posS] at h
  | succ n ih =>
    intro x h
    rw [posS] at h
    rcases List.mem_append.1 h with h | h
    · have := ih x h; omega
    · split at h
      · simp at h; omega
      · simp at h

def WasL (D : DataW Unit) (s : ByteArray) (n : Nat) : Prop := ∀ key : ByteArray, (D.atKey (.string key.data.toList) .nil = .nil ∧ posS s n key = []) ∨ D.atKey (.string key.data.toList) .nil = .slice (lits .i64 (posS s n key)) []
theorem WasL.start (s : ByteArray) : WasL (.map []) s 0 := fun key => Or.inl ⟨rfl, rfl⟩
theorem lits_inj {xs ys : List Int} (h : (DataW.slice (lits .i64 xs) [] : DataW Unit) = .slice (lits .i64 ys) []) : xs = ys := by
  simp only [DataW.slice.injEq, and_true] at h
  unfold lits at h
  exact (List.map_inj_right (fun a b hab => by simpa using hab)).1 h
theorem WasL.got {D : DataW Unit} {s : ByteArray} {n : Nat} (h : WasL D s n) {w : World} {base : Nat} {key : ByteArray} {v : Value} {zs : List Int} (hat : D.atKey (.string key.data.toList) .nil = rowDatum .i64 v zs) (ho : w.ownsInts base 3 .i64 v zs) : zs = posS s n key := by
  rcases ho.datum (H := Unit) with ⟨h1, h2⟩ | h1
  · rw [h1] at hat
    rcases h key with ⟨_, h3⟩ | h3
    · rw [h2, h3]
    · rw [hat] at h3; cases h3
  · rw [h1] at hat
    rcases h key with ⟨h3, _⟩ | h3
    · rw [hat] at h3; cases h3
    · rw [hat] at h3; exact lits_inj h3
theorem WasL.no {D : DataW Unit} {s : ByteArray} {n : Nat} (h : WasL D s n) (hn : ¬ n + 4 ≤ s.size) : WasL D s (n + 1) := fun key => by
  have e : posS s (n + 1) key = posS s n key := by rw [posS, if_neg (fun h => hn h.1), List.append_nil]
  rw [e]; exact h key
theorem bytes_inj {a b : ByteArray} (h : a.data.toList = b.data.toList) : a = b := by
  cases a; cases b; simp only [ByteArray.mk.injEq]; exact Array.toList_inj.1 h
theorem WasL.yes {D : DataW Unit} {s : ByteArray} {n : Nat} (h : WasL D s n) (hn : n + 4 ≤ s.size) (hD : IsMap D) : WasL (D.put (.string (s.extract n (n + 4)).data.toList) (.slice (lits .i64 (posS s n (s.extract n (n + 4)) ++ [(n : Int)])) [])) s (n + 1) := fun key => by
  by_cases c : s.extract n (n + 4) = key
  · subst c
    right
    rw [atKey_put_same hD (show WideAt.IsKeyLit (.string _) from trivial), posS, if_pos ⟨hn, rfl⟩]
  · have e : posS s (n + 1) key = posS s n key := by rw [posS, if_neg (fun h => c h.2), List.append_nil]
    rw [e, atKey_put_other (fun h => c (bytes_inj (by injection h with h; exact h.symm)))]
    exact h key

/-- The finder in memory: block F; its map: block M; the rows: blocks from 'base' on. -/
def Fnd (w : World) (F M base : Nat) (s : ByteArray) (seen : Nat) : Prop :=
  ∃ (n : Nat) (D : DataW Unit), n ≤ seen ∧ w.heap[F]? = some (.cells #[.string s, .map (some M), .int .i64 seen] 40 (0, 0)) ∧ w.ownsGroups Try.prog 9 base 3 .i64 M n D ∧ IsMap D ∧ WasL D s seen ∧ M < F ∧ F < base ∧ base ≤ w.heap.size

theorem Fnd.below {w w' : World} {F M base : Nat} {s : ByteArray} {n : Nat} (h : Fnd w F M base s n) (hb : Below w.heap.size w w') : Fnd w' F M base s n := by
  obtain ⟨m, D, hm, hblk, hown, hD, hwas, hMF, hFb, hbs⟩ := h
  exact ⟨m, D, hm, (hb.block F (lt_of_block hblk)).trans hblk, hown.kept (grown_of_below hb none) (by simp) (fun es clock hb x hx => by cases x.val.ownBlock <;> simp), hD, hwas, hMF, hFb, Nat.le_trans hbs hb.size⟩
theorem wp_gen {P : Program} {c : Code} {Q : Exit → Act → World → Prop} {a : Act} {w : World} (R : World → Prop) (hr : R w) (h : ∀ W, R W → Code.wp P c Q a W) : Code.wp P c Q a w := h w hr
theorem zero55 (w : World) : (zeroValue 55).run Try.prog w = .ok (.slice none 0 0) w := by kernel_rfl
theorem infoInt : (Try.prog.info? 3).map (fun i => (i.zero, i.size, i.bytes)) = some (some (.int .i64 0), 1, 8) := by kernel_rfl
theorem cF0 {w : World} {F M : Nat} {s : ByteArray} {n : Int} (h : w.heap[F]? = some (.cells #[.string s, .map (some M), .int .i64 n] 40 (0, 0))) : w.cell? ⟨F, 0, none⟩ = some (.string s) := by simp [World.cell?, h]
theorem cF1 {w : World} {F M : Nat} {s : ByteArray} {n : Int} (h : w.heap[F]? = some (.cells #[.string s, .map (some M), .int .i64 n] 40 (0, 0))) : w.cell? ⟨F, 1, none⟩ = some (.map (some M)) := by simp [World.cell?, h]
theorem cF2 {w : World} {F M : Nat} {s : ByteArray} {n : Int} (h : w.heap[F]? = some (.cells #[.string s, .map (some M), .int .i64 n] 40 (0, 0))) : w.cell? ⟨F, 2, none⟩ = some (.int .i64 n) := by simp [World.cell?, h]
theorem fF2 {w : World} {F M : Nat} {s : ByteArray} {n : Int} (h : w.heap[F]? = some (.cells #[.string s, .map (some M), .int .i64 n] 40 (0, 0))) : w.frozen? ⟨F, 2, none⟩ = false := by simp [World.frozen?, h]
def seenOf (w : World) (F : Nat) : Nat := match w.cell? ⟨F, 2, none⟩ with | some (.int _ n) => n.toNat | _ => 0

/-- How far two places go on alike. -/
def runG (s : ByteArray) (a b : Int) : Nat → Int → Int
  | 0, n => n
  | r + 1, n => if b + n < (s.size : Int) ∧ bt s (a + n) = bt s (b + n) then runG s a b r (n + 1) else n
def runN (s : ByteArray) (a b : Int) : Int := runG s a b 258 0
theorem runG_range (s : ByteArray) (a b : Int) (r : Nat) : ∀ n, n ≤ runG s a b r n ∧ runG s a b r n ≤ n + r := by
  induction r with
  | zero => intro n; simp [runG]
  | succ r ih =>
    intro n
    rw [runG]
    split
    · have := ih (n + 1); omega
    · omega
theorem run_l0 (s : ByteArray) (a b : Int) (hz : s.size ≤ 1000000000) (h0 : 0 ≤ a) (hab : a < b) (hb : b ≤ s.size) (r : Nat) : ∀ (k : Nat) (n : Int), r + 1 ≤ k → n + r = 258 → 0 ≤ n → squeeze_run.l0 k s a b n = some (runG s a b r n) := by
  induction r with
  | zero =>
    intro k n hk hn h0'
    obtain ⟨k, rfl⟩ : ∃ m, k = m + 1 := ⟨k - 1, by omega⟩
    rw [squeeze_run.l0, if_neg (by omega), runG]
  | succ r ih =>
    intro k n hk hn h0'
    obtain ⟨k, rfl⟩ : ∃ m, k = m + 1 := ⟨k - 1, by omega⟩
    have w1 : wrap64 (b + n) = b + n := by unfold wrap64; omega
    have w2 : wrap64 (a + n) = a + n := by unfold wrap64; omega
    have w3 : wrap64 (n + 1) = n + 1 := by unfold wrap64; omega
    rw [squeeze_run.l0, if_pos (by omega), w1, w2, w3, runG]
    by_cases c : b + n < (s.size : Int)
    · rw [if_pos c, if_pos (by omega), if_pos (by omega), if_pos (by omega)]
      by_cases c2 : bt s (a + n) = bt s (b + n)
      · rw [if_pos c2, if_pos ⟨c, c2⟩, ih k (n + 1) (by omega) (by omega) (by omega)]
      · rw [if_neg c2, if_neg (fun h => c2 h.2)]
    · rw [if_neg c, if_neg (fun h => c h.1)]
theorem run_eq (s : ByteArray) (a b : Int) (hz : s.size ≤ 1000000000) (h0 : 0 ≤ a) (hab : a < b) (hb : b ≤ s.size) : squeeze_run.f 300 s a b = some (runN s a b) := run_l0 s a b hz h0 hab hb 258 300 0 (by omega) (by omega) (by omega)

/-- The longest run, from the nearest place on. -/
def bestR (s : ByteArray) (t : Int) (zs : List Int) : Nat → Int → Int → Int × Int
  | 0, n, b => (n, b)
  | i + 1, n, b => if t - zs.getD i 0 ≤ 4096 then (if n < runN s (zs.getD i 0) t then bestR s t zs i (runN s (zs.getD i 0) t) (t - zs.getD i 0) else bestR s t zs i n b) else (n, b)
def bestS (s : ByteArray) (t : Nat) : Int × Int := if t + 4 ≤ s.size then bestR s t (posS s t (s.extract t (t + 4))) (posS s t (s.extract t (t + 4))).length 0 0 else (0, 0)

def LoopRel (w1 : World) (s : ByteArray) (t : Nat) (zs : List Int) (R : Int × Int) (nv bv iv : Value) (wr : World) : Prop :=
  ∃ (i : Nat) (k n b : Int), nv = .int .i64 n ∧ bv = .int .i64 b ∧ iv = .int .i64 k ∧ k = (i : Int) - 1 ∧ i ≤ zs.length ∧ 0 ≤ n ∧ n ≤ 258 ∧ bestR s t zs i n b = R ∧ Below w1.heap.size w1 wr

def FillRel (w : World) (F M base : Nat) (s : ByteArray) (t : Nat) (wr : World) : Prop :=
  ∃ seen : Nat, seen ≤ t ∧ Fnd wr F M base s seen ∧ Kept w wr (fun g => g = F ∨ g = M ∨ base ≤ g) ∧ Below M w wr

def FillEnd (wr : World) (F M base : Nat) (s : ByteArray) (n : Nat) (w2 : World) : Prop :=
  ∃ (m : Nat) (D : DataW Unit), m ≤ n + 1 ∧ w2.ownsGroups Try.prog 9 base 3 .i64 M m D ∧ IsMap D ∧ WasL D s (n + 1) ∧ base ≤ w2.heap.size ∧ Kept wr w2 (fun g => g = M ∨ base ≤ g) ∧ Below M wr w2
theorem fill_up {wr Wl Wa : World} {F M base m n : Nat} {s : ByteArray} {D : DataW Unit} {v : Value} {zs : List Int} (hblk : wr.heap[F]? = some (.cells #[.string s, .map (some M), .int .i64 n] 40 (0, 0))) (hlb : Below wr.heap.size wr Wl) (hla : Wl.grownBy Wa v.ownBlock)
    (hn4 : n + 4 ≤ s.size) (hz : s.size ≤ 1000000000) (hm : m ≤ n) (hD : IsMap D) (hwas : WasL D s n) (hMF : M < F) (hFb : F < base) (hbs : base ≤ wr.heap.size)
    (hat : D.atKey (.string (s.extract n (n + 4)).data.toList) .nil = rowDatum .i64 v zs) (hoi : Wl.ownsInts base 3 .i64 v zs) (hzl : zs.length ≤ m)
    (hback : Wl.groupBack Try.prog 38 9 base 3 .i64 M m D (.string (s.extract n (n + 4))) (.string (s.extract n (n + 4)).data.toList) v) :
    ∀ (g cap : Nat) (w1 : World), w1.ownsRow base 3 1 (.slice (some ⟨g, 0, none⟩) (zs.length + 1) cap) (zs.length + 1) (zs.map (Value.int .i64) ++ [.int .i64 n]) → Wa.grownBy w1 v.ownBlock → (v.ownBlock = some g ∨ g = Wa.heap.size) →
      ∃ w2, (Instr.mapUpdate 38 (.map (some M)) (.string (s.extract n (n + 4))) (.slice (some ⟨g, 0, none⟩) (zs.length + 1) cap)).run Try.prog w1 = .ok () w2 ∧ w2.heap[F]? = some (.cells #[.string s, .map (some M), .int .i64 n] 40 (0, 0)) ∧ FillEnd wr F M base s n w2 ∧ w1.cell? ⟨F, 1, none⟩ = some (.map (some M)) := by
  intro g cap w1 hown1 hgrow1 hloc1
  have hall := hla.trans hgrow1
  have hoi1 := hoi.appended hown1 (WalkArith.wf_i64 (by omega))
  have hzs := hwas.got hat hoi
  obtain ⟨w2, hrun, hown2, hgrow2⟩ := hback w1 _ (zs ++ [(n : Int)]) hall hoi1 (by simp; omega) (by
    rcases hloc1 with h | h
    · left; rw [h]; rfl
    · right; exact ⟨g, rfl, by rw [h]; exact hla.size⟩)
  have hFl : F < wr.heap.size := lt_of_block hblk
  have hrow : ∀ j, v.ownBlock = some j → base ≤ j := fun j hj => (hoi.1.lt j hj).1
  have hF1 : w1.heap[F]? = _ := (hall.block F (by have := hlb.size; omega) (fun e => by have := hrow F e.symm; omega)).trans ((hlb.block F hFl).trans hblk)
  have hF2 : w2.heap[F]? = _ := (hgrow2.block F (lt_of_block hF1) (by simp; omega)).trans hF1
  have hM : M < base := by omega
  refine ⟨w2, hrun, hF2, ⟨m + 1, _, by omega, hown2, hD.put _ _, ?_, ?_, ?_, ?_⟩, cF1 hF1⟩
  · rw [hoi1.datum_pos (by simp), hzs]
    exact hwas.yes hn4 hD
  · have := hlb.size; have := hall.size; have := hgrow2.size; omega
  · refine ⟨Nat.le_trans hlb.size (Nat.le_trans hall.size hgrow2.size), fun i hi hni => ?_⟩
    have h1 : i ≠ M := fun e => hni (Or.inl e)
    have h2 : ¬ base ≤ i := fun e => hni (Or.inr e)
    have hi1 : w1.heap[i]? = wr.heap[i]? := (hall.block i (by have := hlb.size; omega) (fun e => h2 (hrow i e.symm))).trans (hlb.block i hi)
    exact (hgrow2.block i (by have := hlb.size; have := hall.size; omega) (by simp; omega)).trans hi1
  · exact ((hlb.mono (by omega)).grown hall (by have := hlb.size; omega) (fun j hj => by have := hrow j hj; omega)).grown hgrow2 (by have := hlb.size; have := hall.size; omega) (fun j hj => by cases hj; exact Nat.le_refl _)
theorem FillEnd.rel {w wr : World} {F M base : Nat} {s : ByteArray} {n t : Nat} {w2 : World} (h : FillEnd wr F M base s n w2) (hb2 : w2.heap[F]? = some (.cells #[.string s, .map (some M), .int .i64 n] 40 (0, 0))) (hk : Kept w wr (fun g => g = F ∨ g = M ∨ base ≤ g)) (hB : Below M w wr) (hlt : n < t) (hMF : M < F) (hFb : F < base) :
    FillRel w F M base s t (w2.setCell ⟨F, 2, none⟩ (.int .i64 ((n : Int) + 1))) ∧ seenOf (w2.setCell ⟨F, 2, none⟩ (.int .i64 ((n : Int) + 1))) F = n + 1 := by
  obtain ⟨m, D, hm, hown, hD, hwas, hbs, hk2, hB2⟩ := h
  have hnew : (w2.setCell ⟨F, 2, none⟩ (.int .i64 ((n : Int) + 1))).heap[F]? = some (.cells #[.string s, .map (some M), .int .i64 ((n + 1 : Nat) : Int)] 40 (0, 0)) := by
    have hlt := lt_of_block hb2
    show (w2.heap.modify F _)[F]? = _
    rw [Array.getElem?_eq_getElem (by simpa using hlt), Array.getElem_modify_self]
    rw [Array.getElem?_eq_getElem hlt] at hb2
    simp only [Option.some.injEq] at hb2
    rw [hb2]
    simp
  have hgs : w2.grownBy (w2.setCell ⟨F, 2, none⟩ (.int .i64 ((n : Int) + 1))) (some F) := ⟨rfl, rfl, rfl, by simp [World.setCell], fun k hk hne => Below.heap_setCell _ _ _ _ (fun e => hne (by rw [e]))⟩
  refine ⟨⟨n + 1, hlt, ⟨m, D, hm, hnew, hown.kept hgs (by simp; omega) (hown.rowsAbove (fun j hj => by cases hj; exact hFb)), hD, hwas, hMF, hFb, Nat.le_trans hbs hgs.size⟩, ?_, ?_⟩, ?_⟩
  · exact ((hk.then_ hk2 (fun k hk => Or.inl (Or.inr hk))).setCell (Or.inl (Or.inl rfl)) _)
  · exact (hB.trans hB2).setCell (by show M ≤ F; omega) _
  · unfold seenOf; rw [cF2 hnew]; simp
set_option maxHeartbeats 4000000 in
set_option maxRecDepth 100000 in
theorem best_any (F M base : Nat) (s : ByteArray) (seen t : Nat) (w : World) (hz : s.size ≤ 1000000000) (ht : t ≤ s.size) (hst : seen ≤ t) (hF : Fnd w F M base s seen) :
    Calls Try.prog 17 #[.pointer (some ⟨F, 0, none⟩), .int .i64 t] w fun e w' => e = .returned (.tuple #[.int .i64 (bestS s t).1, .int .i64 (bestS s t).2]) ∧ Fnd w' F M base s t ∧ Kept w w' (fun g => g = F ∨ g = M ∨ base ≤ g) ∧ Below M w w' := by
  have HF := Lib.hid hF
  clear hF
  go_enter Try.func17, Try.ntmps17
  go_wp2
  go_loopw [6] (fun _ wr => FillRel w F M base s t wr) (fun _ wr => t - seenOf wr F)
  case atStart => exact ⟨seen, hst, HF.out, Kept.refl _ _, Below.refl _ _⟩
  case round =>
    obtain ⟨n, hn, hfnd, hk, hB⟩ := hrel
    have hfnd0 := hfnd
    obtain ⟨m, D, hm, hblk, hown, hD, hwas, hMF, hFb, hbs⟩ := hfnd
    have c0 := cF0 hblk
    have c1 := cF1 hblk
    have c2 := cF2 hblk
    have f2 := fF2 hblk
    by_cases hlt : n < t
    · have hnlt : (n : Int) < t := by omega
      have hmx : m < maxLen := by unfold maxLen; omega
      have HH := Lib.hid hown
      clear hown
      go_upto_block 1 with (fail)
      go_cut [] from 25 to 66 (fun wx => wx.heap[F]? = some (.cells #[.string s, .map (some M), .int .i64 n] 40 (0, 0)) ∧ FillEnd wr F M base s n wx)
      case first =>
        by_cases h4 : n + 4 ≤ s.size
        · have h4' : (n : Int) + 4 ≤ s.size := by omega
          have hkey : keyOf Try.prog 9 (.string (s.extract n (n + 4))) = some (.string (s.extract n (n + 4)).data.toList) := Go.WideMaps.keyOf_string_mk (P := Try.prog) Try.underlying9 (s := s.extract n (n + 4)) (by rw [ByteArray.size_extract]; unfold maxLen; omega)
          obtain ⟨i0, hi, hz0, hz1, hz2⟩ := info_parts infoInt
          go_upto_region 3 with (fail)
          go_quiet (fail)
          go_upto_region 4 with (fail)
          go_quiet (fail)
          go_upto_region 5 with (fail)
          refine wp_gen (fun W => W.heap = wr.heap ∧ Below wr.heap.size wr W) ⟨rfl, pw_below_drewN (pw_below_drewN (Below.refl _ _) _) _⟩ ?_
          rintro W5 ⟨h5, hB5⟩
          obtain ⟨v, zs, hlk, hat, hoi, hzl, hback⟩ := (HH.out.kept (w' := W5.drew) (grown_of_below (below_drew1 hB5) none) (by simp) (fun es clock hb x hx => by cases x.val.ownBlock <;> simp)).at (string_keyed Try.underlying9) Try.underlying38 (zero55 _) hmx hkey
          obtain ⟨v2, zs2, hlk2, hat2, hoi2, hzl2, hback2⟩ := (HH.out.kept (w' := W5.drew.alloc (.cells #[.int .i64 n] 3)) (grown_of_below (below_alloc (below_drew1 hB5) _) none) (by simp) (fun es clock hb x hx => by cases x.val.ownBlock <;> simp)).at (string_keyed Try.underlying9) Try.underlying38 (zero55 _) hmx hkey
          have dpos : 0 < 1 := by decide
          have b63 : zs.length + 1 ≤ maxLen := by unfold maxLen; omega
          have b8 : (zs.length + 1) * 8 ≤ 140737488355328 := by omega
          have b632 : zs2.length + 1 ≤ maxLen := by unfold maxLen; omega
          have b82 : (zs2.length + 1) * 8 ≤ 140737488355328 := by omega
          have bbs : base ≤ (W5.drew.alloc (.cells #[.int .i64 n] 3)).heap.size := by
            have := (below_alloc (below_drew1 hB5) (.cells #[.int .i64 n] 3)).size
            omega
          have c05 : W5.cell? ⟨F, 0, none⟩ = some (.string s) := by simpa [World.cell?, h5] using c0
          have c15 : W5.cell? ⟨F, 1, none⟩ = some (.map (some M)) := by simpa [World.cell?, h5] using c1
          have c25 : W5.cell? ⟨F, 2, none⟩ = some (.int .i64 n) := by simpa [World.cell?, h5] using c2
          have hb5a : (W5.alloc (.cells #[.int .i64 n] 3)).heap[F]? = some (.cells #[.string s, .map (some M), .int .i64 n] 40 (0, 0)) := ((below_alloc hB5 _).block F (lt_of_block hblk)).trans hblk
          have c15a := cF1 hb5a
          have c25a := cF2 hb5a
          have HB5a := Lib.hid hb5a
          clear hb5a
          have hgw : (W5.drew.alloc (.cells #[.int .i64 n] 3)) = (W5.alloc (.cells #[.int .i64 n] 3)).drew := rfl
          rw [hgw] at hlk2 hoi2 hback2
          have H5 := Lib.hid h5
          have HgW := Lib.hid hgw
          clear h5 hgw
          have up1 := fill_up (Wl := W5.drew) (Wa := (W5.alloc (.cells #[.int .i64 n] 3)).drew) hblk (below_drew1 hB5) (World.grownBy_alloc _ _ _) h4 hz hm hD hwas hMF hFb hbs hat hoi hzl hback
          have up2 := fill_up (Wl := (W5.alloc (.cells #[.int .i64 n] 3)).drew) (Wa := (W5.alloc (.cells #[.int .i64 n] 3)).drew) hblk (below_drew1 (below_alloc hB5 _)) ⟨rfl, rfl, rfl, Nat.le_refl _, fun _ _ _ => rfl⟩ h4 hz hm hD hwas hMF hFb hbs hat2 hoi2 hzl2 hback2
          go_region_law (first
            | (refine step_append_lies _ rfl _ _ 55 rfl base 3 i0 (.int .i64 0) 1 8 Try.underlying55 hi hz0 hz1 hz2 rfl dpos v zs.length _ rfl (hoi.1.alloc _) ⟨W5.heap.size, 0, none⟩ 1 1 [.int .i64 n] rfl rfl (cell_one_new _ _ _) (ints_oneCell .i64 [(n : Int)]) dpos b63 b8 bbs _ rfl ?_; intro g cap w1 hown1 hgrow1 hloc1 hlt1; obtain ⟨w2, hrun, hb2, hend, c1w⟩ := up1 _ _ _ hown1 hgrow1 hloc1; have c22 := cF2 hb2; have f22 := fF2 hb2)
            | (refine step_append_lies _ rfl _ _ 55 rfl base 3 i0 (.int .i64 0) 1 8 Try.underlying55 hi hz0 hz1 hz2 rfl dpos v2 zs2.length _ rfl hoi2.1 ⟨W5.heap.size, 0, none⟩ 1 1 [.int .i64 n] rfl rfl (cell_one_new _ _ _) (ints_oneCell .i64 [(n : Int)]) dpos b632 b82 bbs _ rfl ?_; intro g cap w1 hown1 hgrow1 hloc1 hlt1; obtain ⟨w2, hrun, hb2, hend, c1w⟩ := up2 _ _ _ hown1 hgrow1 hloc1; have c22 := cF2 hb2; have f22 := fF2 hb2))
          all_goals (go_wp2_with (fail))
          all_goals go_meet
          all_goals exact ⟨hb2, hend⟩
        · have h4' : ¬ ((n : Int) + 4 ≤ s.size) := by omega
          have h4d : decide ((n : Int) + 4 ≤ s.size) = false := decide_eq_false h4'
          go_upto_region 3 with (fail)
          go_quiet (fail)
          go_wp2_with (fail)
          go_meet
          exact ⟨hblk, m, D, by omega, HH.out, hD, hwas.no h4, hbs, Kept.refl _ _, pw_below_drewN (Below.refl _ _) _⟩
      case rest =>
        obtain ⟨hb2, hend⟩ := hcut
        have c22 := cF2 hb2
        have f22 := fF2 hb2
        go_wp2
        go_roundw
        case rel => exact (hend.rel hb2 hk hB hlt hMF hFb).1
        case measure => rw [(hend.rel hb2 hk hB hlt hMF hFb).2]; have : seenOf wr F = n := by { unfold seenOf; rw [c2]; simp }; omega
    · obtain rfl : n = t := by omega
      by_cases h4 : n + 4 ≤ s.size
      · have h4' : (n : Int) + 4 ≤ s.size := by omega
        have hmx : m < maxLen := by unfold maxLen; omega
        have hkey : keyOf Try.prog 9 (.string (s.extract n (n + 4))) = some (.string (s.extract n (n + 4)).data.toList) := Go.WideMaps.keyOf_string_mk (P := Try.prog) Try.underlying9 (s := s.extract n (n + 4)) (by rw [ByteArray.size_extract]; unfold maxLen; omega)
        obtain ⟨v, zs, hlk, hat, hoi, hzl, hback⟩ := (hown.kept (w' := wr.drew) (grown_of_below (below_drew1 (Below.refl _ _)) none) (by simp) (fun es clock hb x hx => by cases x.val.ownBlock <;> simp)).at (string_keyed Try.underlying9) Try.underlying38 (zero55 _) hmx hkey
        have hzs := hwas.got hat hoi
        have HH := Lib.hid hown
        have HBK := Lib.hid hback
        clear hown hback
        have hbest : bestS s n = bestR s n zs zs.length 0 0 := by unfold bestS; rw [if_pos h4, ← hzs]
        have hm0 : ∀ x ∈ zs, 0 ≤ x ∧ x < n := by rw [hzs]; exact posS_mem s n _
        have hmem : ∀ j, j < zs.length → 0 ≤ zs.getD j 0 ∧ zs.getD j 0 < n := fun j hj => by
          rw [List.getD_eq_getElem?_getD, List.getElem?_eq_getElem hj]
          exact hm0 _ (List.getElem_mem _)
        clear hm0
        rcases hoi.1.2 with ⟨rfl, hnil⟩ | ⟨g, cap, cur, rfl, hg⟩
        · have hz0 : zs.length = 0 := hnil
          have hbest0 : bestS s n = (0, 0) := by rw [hbest, hz0]; rfl
          have HB0 := Lib.hid hbest0
          clear hbest hbest0 hzs hmem
          go_upto_region 9 with (fail)
          go_region
          all_goals go_wp2
          all_goals (refine wp_loop_rounds 1 ?_; rw [rounds_succ])
          all_goals go_wp2
          all_goals go_ret2
          all_goals (rw [HB0.out]; exact ⟨rfl, hfnd0.below (below_drew1 (Below.refl _ _)), hk, below_drew1 hB⟩)
        · have hcell : ∀ j, j < zs.length → wr.cell? ⟨g, j, none⟩ = some (.int .i64 (zs.getD j 0)) := fun j hj => by
            have := hoi.1.cellAt j (by omega)
            rw [List.getElem?_map, List.getElem?_eq_getElem hj] at this
            rw [List.getD_eq_getElem?_getD, List.getElem?_eq_getElem hj]
            exact this
          have HB0 := Lib.hid hbest
          have HZ := Lib.hid hzs
          have HM := Lib.hid hmem
          clear hbest hzs hmem
          go_upto_region 9 with (fail)
          go_region
          all_goals go_wp2
          go_loopw [7, 8, 10, 11] (fun nv bv iv _ wq => LoopRel wr s n zs (bestS s n) nv bv iv wq) (fun _ _ iv _ _ => (intOf iv + 1).toNat)
          case atStart => exact ⟨zs.length, _, 0, 0, rfl, rfl, rfl, rfl, Nat.le_refl _, by omega, by omega, HB0.out.symm, below_drew1 (Below.refl _ _)⟩
          case round =>
            obtain ⟨i, k, n1, b, rfl, rfl, rfl, hk', hi, hn0, hn1, hR, hBq⟩ := hrel
            have HR := Lib.hid hR
            clear hR
            by_cases hi0 : i = 0
            · subst hi0
              have hfin : (n1, b) = bestS s n := by have := HR.out; rw [bestR] at this; exact this
              have HFin := Lib.hid hfin
              clear hfin
              go_wp2
              go_ret2
              rw [← HFin.out]
              exact ⟨rfl, hfnd0.below hBq, hk.below hBq, hB.trans (hBq.mono (by omega))⟩
            · obtain ⟨j, rfl⟩ : ∃ j, i = j + 1 := ⟨i - 1, by omega⟩
              obtain rfl : k = (j : Int) := by omega
              have hjl : j < zs.length := by omega
              have hc1 := (hBq.cell (p := ⟨g, j, none⟩) (World.block_lt_of_cell? _ _ (hcell j hjl))).trans (hcell j hjl)
              have hcF := (hBq.cell (p := ⟨F, 0, none⟩) (World.block_lt_of_cell? _ _ c0)).trans c0
              have hzr := HM.out j hjl
              have hjl' : (j : Int) < zs.length := by omega
              have hrun := run_eq s (zs.getD j 0) n hz hzr.1 hzr.2 (by omega)
              have hmr := runG_range s (zs.getD j 0) n 258 0
              have hR2 := HR.out
              rw [bestR] at hR2
              generalize zs.getD j 0 = z at hc1 hzr hrun hmr hR2
              have HRun := Lib.hid hrun
              have hz1 : 0 ≤ z := hzr.1
              have hz2 : z < n := hzr.2
              have HZR := Lib.hid hzr
              have HMR := Lib.hid hmr
              have HCell := Lib.hid hcell
              have HHat := Lib.hid hat
              clear hrun hmr hcell hat hlk hk'
              by_cases hfar : (n : Int) - z ≤ 4096
              · have hfd : decide ((n : Int) - z ≤ 4096) = true := decide_eq_true hfar
                rw [if_pos hfar] at hR2
                have HR2 := Lib.hid hR2
                clear hR2
                go_upto_region 13 with (fail)
                go_quiet (first | (go_at_call 24; (with_reducible refine (squeeze_run.calls 300 s z (n : Int) (runN s z n) _ HRun.out).mono ?_); rintro e w' ⟨rfl, ⟨nd, rfl⟩⟩; (try first | exact ⟨rfl, _, World.drewN_drewN _ _ _⟩ | exact ⟨rfl, _, Eq.trans (World.drewN_drewN _ _ _) (congrArg (World.drewN _) (Nat.add_assoc _ _ _))⟩)))
                by_cases hgt : n1 < runN s z n
                · have HR3 := HR2.out
                  rw [if_pos hgt] at HR3
                  have HR4 := Lib.hid HR3
                  clear HR3
                  go_upto_region 15 with (fail)
                  go_quiet (fail)
                  go_wp2
                  go_roundw
                  case rel => exact ⟨j, _, _, _, rfl, rfl, rfl, rfl, by omega, by have := HMR.out; unfold runN; omega, by have := HMR.out; unfold runN; omega, HR4.out, by first | exact pw_below_drewN hBq _ | exact pw_below_drewN (pw_below_drewN hBq _) _⟩
                  case measure => simp [intOf]
                · have HR3 := HR2.out
                  rw [if_neg hgt] at HR3
                  have HR4 := Lib.hid HR3
                  clear HR3
                  go_wp2
                  go_roundw
                  case rel => exact ⟨j, _, _, _, rfl, rfl, rfl, rfl, by omega, hn0, hn1, HR4.out, pw_below_drewN hBq _⟩
                  case measure => simp [intOf]
              · have hfd : decide ((n : Int) - z ≤ 4096) = false := decide_eq_false hfar
                rw [if_neg hfar] at hR2
                have HFin := Lib.hid hR2
                clear hR2
                go_wp2
                go_ret2
                rw [← HFin.out]
                exact ⟨rfl, hfnd0.below hBq, hk.below hBq, hB.trans (hBq.mono (by omega))⟩
      · have hbest : bestS s n = (0, 0) := by unfold bestS; rw [if_neg h4]
        have HBest := Lib.hid hbest
        clear hbest
        have h4' : (s.size : Int) < (n : Int) + 4 := by omega
        go_wp2
        go_ret2
        rw [HBest.out]
        exact ⟨rfl, hfnd0, hk, hB⟩
end Go.Proofs.Ytmkoajmldbhnbaa.Hand
