/- delta.runs, by hand: the map of the places of eight bytes. -/
import Derived.Test.YtggjkijgbpnhiaaDlApply
import Derived.Maps.OwnRows
import Derived.Maps.GroupsBeside
import Derived.Deep.RegionHeldLaw
import Derived.Lib.Walk
namespace Go.Proofs.Ytggjkijgbpnhiaa.Hand
open Go.Maps Go.ChangeShapes Go.WideElems Go.MapKept
open Go.RowKit Go.Proofs.YtggjkijgbpnhiaaW.PrintWords Go.Proofs.YtggjkijgbpnhiaaW.PrintLast Go.Proofs.YtggjkijgbpnhiaaW.PrintMore
open Go.Proofs.Ytggjkijgbpnhiaa.PDl
set_option linter.unusedVariables false
set_option linter.unusedSimpArgs false

/-- The places below n at which a beginning stands. -/
def posS (s : ByteArray) : Nat → ByteArray → List Int
  | 0, _ => []
  | n + 1, key => posS s n key ++ (if n + 8 ≤ s.size ∧ s.extract n (n + 8) = key then [(n : Int)] else [])
theorem posS_length (s : ByteArray) (n : Nat) (key : ByteArray) : (posS s n key).length ≤ n := by
  induction n with
  | zero => simp [posS]
  | succ n ih => rw [posS]; split <;> simp <;> omega
theorem posS_mem (s : ByteArray) (n : Nat) (key : ByteArray) : ∀ x ∈ posS s n key, 0 ≤ x ∧ x < n := by
  induction n with
  | zero => intro x h; simp [posS] at h
  | succ n ih =>
    intro x h
    rw [posS] at h
    rcases List.mem_append.1 h with h | h
    · have := ih x h; omega
    · split at h
      · simp at h; omega
      · simp at h

def WasL (D : DataW Unit) (s : ByteArray) (n : Nat) : Prop := ∀ key : ByteArray, (D.atKey (.string key.data.toList) .nil = .nil ∧ posS s n key = []) ∨ D.atKey (.string key.data.toList) .nil = .slice (lits .i64 (posS s n key)) []
theorem WasL.start (s : ByteArray) : WasL (.map []) s 0 := fun key => Or.inl ⟨rfl, rfl⟩
theorem lits_inj {xs ys : List Int} (h : (DataW.slice (lits .i64 xs) [] : DataW Unit) = .slice (lits .i64 ys) []) : xs = ys := by
  simp only [DataW.slice.injEq, and_true] at h
  unfold lits at h
  exact (List.map_inj_right (fun a b hab => by simpa using hab)).1 h
theorem WasL.got {D : DataW Unit} {s : ByteArray} {n : Nat} (h : WasL D s n) {w : World} {base : Nat} {key : ByteArray} {v : Value} {zs : List Int} (hat : D.atKey (.string key.data.toList) .nil = rowDatum .i64 v zs) (ho : w.ownsInts base 3 .i64 v zs) : zs = posS s n key := by
  rcases ho.datum (H := Unit) with ⟨h1, h2⟩ | h1
  · rw [h1] at hat
    rcases h key with ⟨_, h3⟩ | h3
    · rw [h2, h3]
    · rw [hat] at h3; cases h3
  · rw [h1] at hat
    rcases h key with ⟨h3, _⟩ | h3
    · rw [hat] at h3; cases h3
    · rw [hat] at h3; exact lits_inj h3
theorem WasL.no {D : DataW Unit} {s : ByteArray} {n : Nat} (h : WasL D s n) (hn : ¬ n + 8 ≤ s.size) : WasL D s (n + 1) := fun key => by
  have e : posS s (n + 1) key = posS s n key := by rw [posS, if_neg (fun h => hn h.1), List.append_nil]
  rw [e]; exact h key
theorem bytes_inj {a b : ByteArray} (h : a.data.toList = b.data.toList) : a = b := by
  cases a; cases b; simp only [ByteArray.mk.injEq]; exact Array.toList_inj.1 h
theorem WasL.yes {D : DataW Unit} {s : ByteArray} {n : Nat} (h : WasL D s n) (hn : n + 8 ≤ s.size) (hD : IsMap D) : WasL (D.put (.string (s.extract n (n + 8)).data.toList) (.slice (lits .i64 (posS s n (s.extract n (n + 8)) ++ [(n : Int)])) [])) s (n + 1) := fun key => by
  by_cases c : s.extract n (n + 8) = key
  · subst c
    right
    rw [atKey_put_same hD (show WideAt.IsKeyLit (.string _) from trivial), posS, if_pos ⟨hn, rfl⟩]
  · have e : posS s (n + 1) key = posS s n key := by rw [posS, if_neg (fun h => c h.2), List.append_nil]
    rw [e, atKey_put_other (fun h => c (bytes_inj (by injection h with h; exact h.symm)))]
    exact h key

/-- The places in memory: the map's variable P, the map M, the base's bytes Bx; the rows: blocks from b0 on. -/
def Plc (w : World) (P M b0 Bx : Nat) (s : ByteArray) (n : Nat) : Prop :=
  ∃ (m : Nat) (D : DataW Unit), m ≤ n ∧ w.heap[P]? = some (.cells #[.map (some M)] 68 (0, 0)) ∧ w.heap[Bx]? = some (.cells #[.string s] 9 (0, 0)) ∧ w.ownsGroups Try.prog 9 b0 3 .i64 M m D ∧ IsMap D ∧ WasL D s n ∧ Bx < M ∧ M < P ∧ P < b0 ∧ b0 ≤ w.heap.size
theorem Plc.below {w w' : World} {P M b0 Bx : Nat} {s : ByteArray} {n : Nat} (h : Plc w P M b0 Bx s n) (hb : Below w.heap.size w w') : Plc w' P M b0 Bx s n := by
  obtain ⟨m, D, hm, hp, hx, hown, hD, hwas, h1, h2, h3, hbs⟩ := h
  exact ⟨m, D, hm, (hb.block P (lt_of_block hp)).trans hp, (hb.block Bx (lt_of_block hx)).trans hx, hown.kept (grown_of_below hb none) (by simp) (fun es clock hb x hx => by cases x.val.ownBlock <;> simp), hD, hwas, h1, h2, h3, Nat.le_trans hbs hb.size⟩
theorem posS_past (s : ByteArray) (key : ByteArray) (n : Nat) (h : ¬ n + 8 ≤ s.size) (d : Nat) : posS s (n + d) key = posS s n key := by
  induction d with
  | zero => rfl
  | succ d ih => rw [← Nat.add_assoc, posS, ih, if_neg (fun k => h (by omega)), List.append_nil]
theorem Plc.past {w : World} {P M b0 Bx : Nat} {s : ByteArray} {n : Nat} (h : Plc w P M b0 Bx s n) (h8 : ¬ n + 8 ≤ s.size) (hn : n ≤ s.size) : Plc w P M b0 Bx s s.size := by
  obtain ⟨m, D, hm, hp, hx, hown, hD, hwas, h1, h2, h3, hbs⟩ := h
  refine ⟨m, D, by omega, hp, hx, hown, hD, fun key => ?_, h1, h2, h3, hbs⟩
  have e := posS_past s key n h8 (s.size - n)
  rw [show n + (s.size - n) = s.size by omega] at e
  rw [e]; exact hwas key
theorem zeroIs (w : World) : (zeroValue 69).run Try.prog w = .ok (.slice none 0 0) w := by kernel_rfl
theorem infoInt : (Try.prog.info? 3).map (fun i => (i.zero, i.size, i.bytes)) = some (some (.int .i64 0), 1, 8) := by kernel_rfl
theorem wp_gen {P : Program} {c : Code} {Q : Exit → Act → World → Prop} {a : Act} {w : World} (R : World → Prop) (hr : R w) (h : ∀ W, R W → Code.wp P c Q a W) : Code.wp P c Q a w := h w hr
def PlcEnd (wr : World) (P M b0 Bx : Nat) (s : ByteArray) (n : Nat) (w2 : World) : Prop := Plc w2 P M b0 Bx s (n + 1) ∧ Below M wr w2
theorem fill_up {wr Wl Wa : World} {P M b0 Bx m n : Nat} {s : ByteArray} {D : DataW Unit} {v : Value} {zs : List Int} (hp : wr.heap[P]? = some (.cells #[.map (some M)] 68 (0, 0))) (hx : wr.heap[Bx]? = some (.cells #[.string s] 9 (0, 0))) (hlb : Below wr.heap.size wr Wl) (hla : Wl.grownBy Wa v.ownBlock)
    (hn4 : n + 8 ≤ s.size) (hz : s.size ≤ 1000000000) (hm : m ≤ n) (hD : IsMap D) (hwas : WasL D s n) (h1 : Bx < M) (h2 : M < P) (h3 : P < b0) (hbs : b0 ≤ wr.heap.size)
    (hat : D.atKey (.string (s.extract n (n + 8)).data.toList) .nil = rowDatum .i64 v zs) (hoi : Wl.ownsInts b0 3 .i64 v zs) (hzl : zs.length ≤ m)
    (hback : Wl.groupBack Try.prog 68 9 b0 3 .i64 M m D (.string (s.extract n (n + 8))) (.string (s.extract n (n + 8)).data.toList) v) :
    ∀ (g cap : Nat) (w1 : World), w1.ownsRow b0 3 1 (.slice (some ⟨g, 0, none⟩) (zs.length + 1) cap) (zs.length + 1) (zs.map (Value.int .i64) ++ [.int .i64 n]) → Wa.grownBy w1 v.ownBlock → (v.ownBlock = some g ∨ g = Wa.heap.size) →
      ∃ w2, (Instr.mapUpdate 68 (.map (some M)) (.string (s.extract n (n + 8))) (.slice (some ⟨g, 0, none⟩) (zs.length + 1) cap)).run Try.prog w1 = .ok () w2 ∧ PlcEnd wr P M b0 Bx s n w2 ∧ w1.cell? ⟨P, 0, none⟩ = some (.map (some M)) ∧ w1.cell? ⟨Bx, 0, none⟩ = some (.string s) ∧ w2.cell? ⟨P, 0, none⟩ = some (.map (some M)) ∧ w2.cell? ⟨Bx, 0, none⟩ = some (.string s) := by
  intro g cap w1 hown1 hgrow1 hloc1
  have hall := hla.trans hgrow1
  have hoi1 := hoi.appended hown1 (WalkArith.wf_i64 (by omega))
  have hzs := hwas.got hat hoi
  obtain ⟨w2, hrun, hown2, hgrow2⟩ := hback w1 _ (zs ++ [(n : Int)]) hall hoi1 (by simp; omega) (by
    rcases hloc1 with h | h
    · left; rw [h]; rfl
    · right; exact ⟨g, rfl, by rw [h]; exact hla.size⟩)
  have hPl : P < wr.heap.size := lt_of_block hp
  have hXl : Bx < wr.heap.size := lt_of_block hx
  have hrow : ∀ j, v.ownBlock = some j → b0 ≤ j := fun j hj => (hoi.1.lt j hj).1
  have hP1 : w1.heap[P]? = _ := (hall.block P (by have := hlb.size; omega) (fun e => by have := hrow P e.symm; omega)).trans ((hlb.block P hPl).trans hp)
  have hX1 : w1.heap[Bx]? = _ := (hall.block Bx (by have := hlb.size; omega) (fun e => by have := hrow Bx e.symm; omega)).trans ((hlb.block Bx hXl).trans hx)
  have hP2 : w2.heap[P]? = _ := (hgrow2.block P (lt_of_block hP1) (by simp; omega)).trans hP1
  have hX2 : w2.heap[Bx]? = _ := (hgrow2.block Bx (lt_of_block hX1) (by simp; omega)).trans hX1
  refine ⟨w2, hrun, ⟨⟨m + 1, _, by omega, hP2, hX2, hown2, hD.put _ _, ?_, h1, h2, h3, ?_⟩, ?_⟩, cell_of_one hP1, cell_of_one hX1, cell_of_one hP2, cell_of_one hX2⟩
  · rw [hoi1.datum_pos (by simp), hzs]
    exact hwas.yes hn4 hD
  · have := hlb.size; have := hall.size; have := hgrow2.size; omega
  · exact ((hlb.mono (by omega)).grown hall (by have := hlb.size; omega) (fun j hj => by have := hrow j hj; omega)).grown hgrow2 (by have := hlb.size; have := hall.size; omega) (fun j hj => by cases hj; exact Nat.le_refl _)
def RunsRel (w : World) (Bx : Nat) (s : ByteArray) (iv : Value) (wr : World) : Prop :=
  ∃ n : Nat, iv = .int .i64 n ∧ n ≤ s.size ∧ Plc wr (Bx + 1 + 1) (Bx + 1) (Bx + 1 + 1 + 1) Bx s n ∧ Below w.heap.size w wr
set_option maxHeartbeats 4000000 in
set_option maxRecDepth 100000 in
theorem runs_any (s : ByteArray) (w : World) (hz : s.size ≤ 1000000000) :
    Calls Try.prog 20 #[.string s] w fun e w' => e = .returned (.func (.func 36) #[] #[.pointer (some ⟨w.heap.size + 1 + 1, 0, none⟩), .pointer (some ⟨w.heap.size, 0, none⟩)]) ∧ Plc w' (w.heap.size + 1 + 1) (w.heap.size + 1) (w.heap.size + 1 + 1 + 1) w.heap.size s s.size ∧ Below w.heap.size w w' := by
  have hmm := @run_makeMap Try.prog
  go_enter Try.func20, Try.ntmps20
  go_wp2
  go_loopw [4] (fun iv wr => RunsRel w w.heap.size s iv wr) (fun iv _ => s.size + 1 - (intOf iv).toNat)
  case atStart =>
    have h1 := heap_alloc_new w (.cells #[.string s] 9)
    have h2 := heap_alloc_new (w.alloc (.cells #[.string s] 9)) (.map #[] 0)
    have h3 := heap_alloc_new ((w.alloc (.cells #[.string s] 9)).alloc (.map #[] 0)) (.cells #[.map (some (w.heap.size + 1))] 68)
    have z1 : (w.alloc (.cells #[.string s] 9)).heap.size = w.heap.size + 1 := by simp
    have z2 : ((w.alloc (.cells #[.string s] 9)).alloc (.map #[] 0)).heap.size = w.heap.size + 1 + 1 := by simp
    rw [z1] at h2
    rw [z2] at h3
    refine ⟨0, rfl, Nat.zero_le _, ⟨0, .map [], Nat.le_refl _, h3, ?_, ?_, isMap_empty, WasL.start s, by omega, by omega, by omega, by simp⟩, ?_⟩
    · exact (Below.heap_alloc _ _ _ (by simp; omega)).trans ((Below.heap_alloc _ _ _ (by simp)).trans h1)
    · exact ⟨#[], 0, (Below.heap_alloc _ _ _ (by simp)).trans h2, ⟨by simp, stamped_empty 0, by simp⟩, Nat.le_refl _, rfl, by omega, by simp, by simp⟩
    · exact (((Below.refl _ w).alloc (Nat.le_refl _) _).alloc (by simp) _).alloc (by simp; omega) _
  case round =>
    obtain ⟨n, rfl, hn, hplc, hB⟩ := hrel
    have hplc0 := hplc
    obtain ⟨m, D, hm, hp, hx, hown, hD, hwas, h1, h2, h3, hbs⟩ := hplc
    have c1 := cell_of_one hp
    have cx := cell_of_one hx
    clear hmm
    generalize hP : w.heap.size + 1 + 1 = P at *
    generalize hM : w.heap.size + 1 = M at *
    generalize hX : w.heap.size = Bx at *
    have HX := Lib.hid hX
    have HM := Lib.hid hM
    have HP := Lib.hid hP
    clear hX hM hP
    by_cases h4 : n + 8 ≤ s.size
    · have h4' : (n : Int) + 8 ≤ s.size := by omega
      have hn0 : (0 : Int) ≤ n := by omega
      have hmx : m < maxLen := by unfold maxLen; omega
      have HH := Lib.hid hown
      have hkey : keyOf Try.prog 9 (.string (s.extract n (n + 8))) = some (.string (s.extract n (n + 8)).data.toList) := Go.WideMaps.keyOf_string_mk (P := Try.prog) Try.underlying9 (s := s.extract n (n + 8)) (by rw [ByteArray.size_extract]; unfold maxLen; omega)
      obtain ⟨i0, hi, hz0, hz1, hz2⟩ := info_parts infoInt
      clear hown
      go_upto_region 5 with (fail)
      refine wp_gen (fun W => W.heap = wr.heap ∧ Below wr.heap.size wr W) ⟨rfl, by first | exact Below.refl _ _ | exact pw_below_drewN (Below.refl _ _) _⟩ ?_
      rintro W5 ⟨h5, hB5⟩
      obtain ⟨v, zs, hlk, hat, hoi, hzl, hback⟩ := (HH.out.kept (w' := W5.drew) (grown_of_below (below_drew1 hB5) none) (by simp) (fun es clock hb x hx => by cases x.val.ownBlock <;> simp)).at (string_keyed Try.underlying9) Try.underlying68 (zeroIs _) hmx hkey
      obtain ⟨v2, zs2, hlk2, hat2, hoi2, hzl2, hback2⟩ := (HH.out.kept (w' := W5.drew.alloc (.cells #[.int .i64 n] 3)) (grown_of_below (below_alloc (below_drew1 hB5) _) none) (by simp) (fun es clock hb x hx => by cases x.val.ownBlock <;> simp)).at (string_keyed Try.underlying9) Try.underlying68 (zeroIs _) hmx hkey
      have dpos : 0 < 1 := by decide
      have b63 : zs.length + 1 ≤ maxLen := by unfold maxLen; omega
      have b8 : (zs.length + 1) * 8 ≤ 140737488355328 := by omega
      have b632 : zs2.length + 1 ≤ maxLen := by unfold maxLen; omega
      have b82 : (zs2.length + 1) * 8 ≤ 140737488355328 := by omega
      have bbs : P + 1 ≤ (W5.drew.alloc (.cells #[.int .i64 n] 3)).heap.size := by
        have := (below_alloc (below_drew1 hB5) (.cells #[.int .i64 n] 3)).size
        omega
      have c05 : W5.cell? ⟨P, 0, none⟩ = some (.map (some M)) := by simpa [World.cell?, h5] using c1
      have c15 : W5.cell? ⟨Bx, 0, none⟩ = some (.string s) := by simpa [World.cell?, h5] using cx
      have hgw : (W5.drew.alloc (.cells #[.int .i64 n] 3)) = (W5.alloc (.cells #[.int .i64 n] 3)).drew := rfl
      rw [hgw] at hlk2 hoi2 hback2
      have H5 := Lib.hid h5
      have HgW := Lib.hid hgw
      clear h5 hgw
      have up1 := fill_up (Wl := W5.drew) (Wa := (W5.alloc (.cells #[.int .i64 n] 3)).drew) hp hx (below_drew1 hB5) (World.grownBy_alloc _ _ _) h4 hz hm hD hwas h1 h2 h3 hbs hat hoi hzl hback
      have up2 := fill_up (Wl := (W5.alloc (.cells #[.int .i64 n] 3)).drew) (Wa := (W5.alloc (.cells #[.int .i64 n] 3)).drew) hp hx (below_drew1 (below_alloc hB5 _)) ⟨rfl, rfl, rfl, Nat.le_refl _, fun _ _ _ => rfl⟩ h4 hz hm hD hwas h1 h2 h3 hbs hat2 hoi2 hzl2 hback2
      have q1 : IntKind.i64.wrap ((n : Int) + 8) = (n : Int) + 8 := IntWalk.i64_in _ (by omega)
      have q2 : (0 : Int) ≤ (n : Int) + 8 := by omega
      have q3 : ((n : Int) + 8).toNat = n + 8 := by omega
      have q4 : (n : Int) ≤ (n : Int) + 8 := by omega
      have hPW : P < W5.heap.size := World.block_lt_of_cell? _ _ c05
      have hXW : Bx < W5.heap.size := World.block_lt_of_cell? _ _ c15
      go_region_held_law (fun w' => w'.cell? ⟨P, 0, none⟩ = some (.map (some M)) ∧ w'.cell? ⟨Bx, 0, none⟩ = some (.string s)) (first | go_keep | exact ⟨c1w, c2w⟩ | exact ⟨c3w, c4w⟩)
        ((first
          | (refine step_append_lies _ rfl _ _ 69 rfl (P + 1) 3 i0 (.int .i64 0) 1 8 Try.underlying69 hi hz0 hz1 hz2 rfl dpos v zs.length _ rfl (hoi.1.alloc _) ⟨W5.heap.size, 0, none⟩ 1 1 [.int .i64 n] rfl rfl (cell_one_new _ _ _) (ints_oneCell .i64 [(n : Int)]) dpos b63 b8 bbs _ rfl ?_; intro g cap w1 hown1 hgrow1 hloc1 hlt1; obtain ⟨w2, hrun, hend, c1w, c2w, c3w, c4w⟩ := up1 _ _ _ hown1 hgrow1 hloc1)
          | (refine step_append_lies _ rfl _ _ 69 rfl (P + 1) 3 i0 (.int .i64 0) 1 8 Try.underlying69 hi hz0 hz1 hz2 rfl dpos v2 zs2.length _ rfl hoi2.1 ⟨W5.heap.size, 0, none⟩ 1 1 [.int .i64 n] rfl rfl (cell_one_new _ _ _) (ints_oneCell .i64 [(n : Int)]) dpos b632 b82 bbs _ rfl ?_; intro g cap w1 hown1 hgrow1 hloc1 hlt1; obtain ⟨w2, hrun, hend, c1w, c2w, c3w, c4w⟩ := up2 _ _ _ hown1 hgrow1 hloc1)))
      all_goals go_wp2
      all_goals go_roundw
      all_goals first | (simp [intOf]; omega) | skip
      all_goals
        have ex := HX.out
        have em := HM.out
        have ep := HP.out
        subst ex
        subst em
        subst ep
        exact ⟨n + 1, by simp, by omega, hend.1, hB.trans (hend.2.mono (by omega))⟩
    · have h4d : decide ((n : Int) + 8 ≤ s.size) = false := by simp; omega
      go_wp2
      go_ret
      have ex := HX.out
      have em := HM.out
      have ep := HP.out
      subst ex
      subst em
      subst ep
      exact ⟨rfl, hplc0.past h4 hn, hB⟩
end Go.Proofs.Ytggjkijgbpnhiaa.Hand
