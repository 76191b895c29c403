/- A strings.Builder that the call itself has made: WriteString and String at what it holds as one string. -/
import Derived.Test.YtggjkijgbpnhiaaBuf
import Derived.Test.YtggjkijgbpnhiaaShelf
import Derived.Lib.Hide
import Derived.Lib.Builder
import Derived.Lib.AppendStr
import Derived.Lib.UnsafeStr
import Derived.Laws.Externs
import Derived.Lib.Walk
namespace Go.Proofs.Ytggjkijgbpnhiaa.Hand
open Go.RowKit Go.Proofs.YtggjkijgbpnhiaaW.PrintWords Go.Proofs.YtggjkijgbpnhiaaW.PrintLast Go.Proofs.YtggjkijgbpnhiaaW.PrintMore
set_option linter.unusedVariables false
set_option linter.unusedSimpArgs false

/-- The builder in block b (one of the blocks from B on) holds the bytes s. -/
def IsB (w : World) (B b : Nat) (s : ByteArray) : Prop := Lib.IsBuilder 45 5 B b (Lib.strCells s) w

theorem IsB.at {w : World} {B b : Nat} {s : ByteArray} (h : IsB w B b s) : ∃ p, Lib.BuilderAt 45 5 B b p (Lib.strCells s) w ∧ (p = .pointer none ∨ p = .pointer (some ⟨b, 0, none⟩)) := by
  rcases h with h | h
  · exact ⟨_, h, Or.inl rfl⟩
  · exact ⟨_, h, Or.inr rfl⟩
theorem IsB.lt {w : World} {B b : Nat} {s : ByteArray} (h : IsB w B b s) : b < w.heap.size := by
  obtain ⟨p, h, _⟩ := h.at; exact h.lt
theorem IsB.base {w : World} {B b : Nat} {s : ByteArray} (h : IsB w B b s) : B ≤ b := by
  obtain ⟨p, h, _⟩ := h.at; exact h.1
/-- What keeps the builder's blocks keeps the builder. -/
theorem IsB.below {w w' : World} {B b : Nat} {s : ByteArray} (h : IsB w B b s) (hb : Below w.heap.size w w') : IsB w' B b s := by
  have key : ∀ p, Lib.BuilderAt 45 5 B b p (Lib.strCells s) w → Lib.BuilderAt 45 5 B b p (Lib.strCells s) w' := by
    intro p h
    have hlt := h.lt
    obtain ⟨hB, v, hk, hown, hne⟩ := h
    exact ⟨hB, v, (hb.block b hlt).trans hk, pw_own_below hown hb, hne⟩
  exact h.imp (key _) (key _)
theorem IsB.alloc {w : World} {B b : Nat} {s : ByteArray} (h : IsB w B b s) (o : Obj) : IsB (w.alloc o) B b s := h.below ((Below.refl _ _).alloc (Nat.le_refl _) o)
theorem IsB.drew {w : World} {B b : Nat} {s : ByteArray} (h : IsB w B b s) : IsB w.drew B b s := h.below (Below.refl _ w).drew
/-- A fresh builder. -/
theorem IsB.fresh (w : World) (B : Nat) (hB : B ≤ w.heap.size) : IsB (w.alloc (.cells #[.pointer none, .slice none 0 0] 45)) B w.heap.size ⟨#[]⟩ :=
  Or.inl ⟨hB, .slice none 0 0, heap_alloc_new w _, World.ownsRow_nil _ _ _ _, by simp [Value.ownBlock]⟩

theorem bld_size : ∃ j, Try.prog.info? 45 = some j ∧ j.size = 2 := by
  have h : (Try.prog.info? 45).map (·.size) = some 2 := by kernel_rfl
  obtain ⟨j, hj, hs⟩ := Option.map_eq_some_iff.1 h
  exact ⟨j, hj, hs⟩
theorem bld_lies : liesAt Try.prog Try.prog.depth 45 (2 / Try.prog.cellsOf 45) 0 45 1 = true := by kernel_rfl
theorem bld_ne : 45 ≠ 5 := by decide

set_option maxHeartbeats 1000000 in
set_option maxRecDepth 100000 in
theorem copyCheck_used (b : Nat) (w : World) (h0 : w.cell? ⟨b, 0, none⟩ = some (.pointer (some ⟨b, 0, none⟩))) :
    Calls Try.prog 37 #[.pointer (some ⟨b, 0, none⟩)] w fun e w' => e = .returned (.tuple #[]) ∧ w' = w := by
  obtain ⟨j, hj, _⟩ := bld_size
  go_enter Try.func37, Try.ntmps37
  go_wp2
  rw [Lib.run_neq_ptr_same w _ Try.underlying43 hj]
  go_wp2
  go_end0
  exact ⟨rfl, rfl⟩
set_option maxHeartbeats 1000000 in
set_option maxRecDepth 100000 in
theorem copyCheck_fresh (b : Nat) (w : World) (h0 : w.cell? ⟨b, 0, none⟩ = some (.pointer none)) (hsh : w.shape? b = some (45, 2)) (hfz : w.frozen? ⟨b, 0, none⟩ = false) :
    Calls Try.prog 37 #[.pointer (some ⟨b, 0, none⟩)] w fun e w' => e = .returned (.tuple #[]) ∧ w' = w.setCell ⟨b, 0, none⟩ (.pointer (some ⟨b, 0, none⟩)) := by
  obtain ⟨j, hj, hjs⟩ := bld_size
  go_enter Try.func37, Try.ntmps37
  go_wp2
  rw [Lib.run_to_unsafe w ⟨b, 0, none⟩ Try.underlying43 Try.underlying74 hj (by rw [hjs]; decide) hsh (Nat.zero_lt_succ 1)]
  simp only [Result.andThen]
  rw [Oper.upon_value]
  go_wp2
  rw [run_callFunc_extern Try.func40 (by kernel_rfl) (by kernel_rfl) (by kernel_rfl) (e := Extern.AbiNoEscape.same) (by kernel_rfl)]
  rw [Lib.run_noEscape]
  simp only [Result.andThen]
  rw [Oper.upon_value]
  go_wp2
  rw [Lib.run_from_unsafe w ⟨b, 0, none⟩ Try.underlying74 Try.underlying43 hj hsh bld_lies]
  simp only [Result.andThen]
  rw [Oper.upon_value]
  go_wp2
  go_end0
  exact ⟨rfl, rfl⟩
theorem copyCheck_any (B b : Nat) (s : ByteArray) (w : World) (h : IsB w B b s) :
    Calls Try.prog 37 #[.pointer (some ⟨b, 0, none⟩)] w fun e w' => e = .returned (.tuple #[]) ∧ (Lib.BuilderAt 45 5 B b (.pointer (some ⟨b, 0, none⟩)) (Lib.strCells s) w' ∧ Below B w w' ∧ ∀ k, k ≠ b → w'.heap[k]? = w.heap[k]?) := by
  rcases h with h | h
  · refine (copyCheck_fresh b w h.cell0 h.shape h.frozen0).mono ?_
    rintro e w' ⟨rfl, rfl⟩
    exact ⟨rfl, h.used _, (Below.refl B w).setCell (p := ⟨b, 0, none⟩) h.1 _, fun k hk => Below.heap_setCell _ ⟨b, 0, none⟩ _ k hk⟩
  · refine (copyCheck_used b w h.cell0).mono ?_
    rintro e w' ⟨rfl, rfl⟩
    exact ⟨rfl, h, Below.refl B _, fun _ _ => rfl⟩

theorem info_u8 : (Try.prog.info? 5).map (fun i => (i.zero, i.size, i.bytes)) = some (some (.int .u8 0), 1, 1) := by kernel_rfl
theorem strCells_append (s t : ByteArray) : Lib.strCells (s ++ t) = Lib.strCells s ++ Lib.strCells t := by simp [Lib.strCells, ByteArray.data_append]

set_option maxHeartbeats 2000000 in
set_option maxRecDepth 100000 in
theorem writeString_any2 (B b : Nat) (s t : ByteArray) (w : World) (h : IsB w B b s) (hlen : s.size + t.size ≤ 140737488355328) (hBw : B ≤ w.heap.size) :
    Calls Try.prog 22 #[.pointer (some ⟨b, 0, none⟩), .string t] w fun e w' => e = .returned (.tuple #[.int .i64 t.size, .nilIface]) ∧ (IsB w' B b (s ++ t) ∧ Below B w w' ∧ ∀ k c ty fr, w.heap[k]? = some (.cells c ty fr) → ty ≠ 5 → k ≠ b → w'.heap[k]? = some (.cells c ty fr)) := by
  obtain ⟨i0, hi, hp⟩ : ∃ i, Try.prog.info? 5 = some i ∧ (i.zero, i.size, i.bytes) = (some (.int .u8 0), 1, 1) := by
    obtain ⟨j, hj, hs⟩ := Option.map_eq_some_iff.1 info_u8
    exact ⟨j, hj, hs⟩
  simp only [Prod.mk.injEq] at hp
  obtain ⟨hz0, hz1, hz2⟩ := hp
  go_enter Try.func22, Try.ntmps22
  go_wp2_with (go_at_call 37; refine (copyCheck_any B b s _ h).mono ?_)
  rintro e w1 ⟨rfl, h1, hb1, hk1⟩
  have HK1 := Lib.hid hk1
  clear hk1
  obtain ⟨hB, v, hbk, hown, hne⟩ := h1
  have c0 : w1.cell? ⟨b, 0, none⟩ = some (.pointer (some ⟨b, 0, none⟩)) := by rw [Lib.cell_of_heap hbk]; rfl
  have c1 : w1.cell? ⟨b, 1, none⟩ = some v := by rw [Lib.cell_of_heap hbk]; rfl
  go_wp2_with (at_builtin; refine Lib.wpList_append_own_string _ rfl _ _ 35 9 rfl B 5 i0 Try.underlying35 Try.underlying9 hi hz0 hz1 hz2 _ _ _ rfl hown t rfl ?c3 ?c4 ?c5 ?_)
  case c3 => have := Lib.strCells_length s; unfold maxLen; omega
  case c4 => have := Lib.strCells_length s; omega
  case c5 => have := hb1.size; omega
  intro v' w2 hown' hgrow _
  have hlt : b < w1.heap.size := by
    rcases Nat.lt_or_ge b w1.heap.size with h' | h'
    · exact h'
    · simp [Array.getElem?_eq_none h'] at hbk
  have hb2 : w2.heap[b]? = some (.cells #[.pointer (some ⟨b, 0, none⟩), v] 45 (0, 0)) := by
    rw [hgrow.block b hlt (fun e => hne e.symm)]
    exact hbk
  have d0 : w2.cell? ⟨b, 0, none⟩ = some (.pointer (some ⟨b, 0, none⟩)) := by rw [Lib.cell_of_heap hb2]; rfl
  have d1 : w2.cell? ⟨b, 1, none⟩ = some v := by rw [Lib.cell_of_heap hb2]; rfl
  have f1 : w2.frozen? ⟨b, 1, none⟩ = false := Lib.frozen_of_heap hb2 1
  have hlc : (Lib.strCells s ++ Lib.strCells t).length = (Lib.strCells s).length + t.size := by rw [List.length_append, Lib.strCells_length t]
  have hown2 : w2.ownsRow B 5 1 v' (Lib.strCells (s ++ t)).length (Lib.strCells (s ++ t)) := by rw [strCells_append, hlc]; exact hown'
  have hput := Lib.BuilderAt.put (T := 45) (e := 5) (p := .pointer (some ⟨b, 0, none⟩)) hB hb2 (bs' := Lib.strCells (s ++ t)) hown2 bld_ne
  have hbel : Below B w (w2.setCell ⟨b, 1, none⟩ v') := (hb1.grown hgrow (by have := hb1.size; omega) (fun k hk => (hown.lt k hk).1)).setCell (p := ⟨b, 1, none⟩) hB _
  have hvs : ∃ A l c, v' = .slice A l c := by
    rcases hown'.2 with ⟨hv, _⟩ | ⟨g, cap, cur, hv, _⟩
    · exact ⟨_, _, _, hv⟩
    · exact ⟨_, _, _, hv⟩
  obtain ⟨A, l, c, rfl⟩ := hvs
  have HP := Lib.hid hput
  have HQ := Lib.hid hbel
  have hkeep : ∀ k c' ty fr, w.heap[k]? = some (.cells c' ty fr) → ty ≠ 5 → k ≠ b → (w2.setCell ⟨b, 1, none⟩ (.slice A l c)).heap[k]? = some (.cells c' ty fr) := by
    intro k c' ty fr hk hty hkb
    have hk1 := (HK1.out k hkb).trans hk
    have hlt1 : k < w1.heap.size := by
      rcases Nat.lt_or_ge k w1.heap.size with h' | h'
      · exact h'
      · simp [Array.getElem?_eq_none h'] at hk1
    refine (Below.heap_setCell _ ⟨b, 1, none⟩ _ k hkb).trans ((hgrow.block k hlt1 (fun e => ?_)).trans hk1)
    obtain ⟨cells, hc⟩ := own_typed hown k e.symm
    rw [hk1] at hc
    simp only [Option.some.injEq, Obj.cells.injEq] at hc
    exact hty hc.2.1
  have HK := Lib.hid hkeep
  clear hput hbel hown2 hlc hkeep
  go_wp2
  go_ret2
  exact ⟨rfl, Or.inr HP.out, HQ.out, HK.out⟩
theorem writeString_any (B b : Nat) (s t : ByteArray) (w : World) (h : IsB w B b s) (hlen : s.size + t.size ≤ 140737488355328) (hBw : B ≤ w.heap.size) :
    Calls Try.prog 22 #[.pointer (some ⟨b, 0, none⟩), .string t] w fun e w' => e = .returned (.tuple #[.int .i64 t.size, .nilIface]) ∧ (IsB w' B b (s ++ t) ∧ Below B w w') :=
  (writeString_any2 B b s t w h hlen hBw).mono fun e w' h => ⟨h.1, h.2.1, h.2.2.1⟩

theorem string_any (B b : Nat) (s : ByteArray) (w : World) (h : IsB w B b s) (hBw : B ≤ w.heap.size) :
    Calls Try.prog 24 #[.pointer (some ⟨b, 0, none⟩)] w fun e w' => e = .returned (.string s) ∧ Below B w w' :=
  (Try.Builder_String_any B b s.data.toList w h hBw).mono fun e w' ⟨he, hw⟩ => ⟨by rw [he], hw⟩

end Go.Proofs.Ytggjkijgbpnhiaa.Hand
