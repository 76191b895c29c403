/- delta's reader in memory: num and fail, by hand. -/
import Derived.Test.YtggjkijgbpnhiaaTakeP
import Derived.Test.YtggjkijgbpnhiaaStrPlain
import Derived.OneCell
import Derived.OwnWalk
import Derived.WalkSpells
import Derived.BigQuiet
import Derived.Deep.QuietTactic
import Derived.Deep.RegionLaw
import Derived.Deep.AppendLies
import Derived.Lib.AppendStr
import Derived.Lib.Hide
import Derived.IntWalk
namespace Go.Proofs.Ytggjkijgbpnhiaa.Hand
open Go.RowKit Go.Proofs.YtggjkijgbpnhiaaW.PrintWords Go.Proofs.YtggjkijgbpnhiaaW.PrintLast Go.Proofs.YtggjkijgbpnhiaaW.PrintMore
open Go.Proofs.Ytggjkijgbpnhiaa.PDl
set_option linter.unusedVariables false
set_option linter.unusedSimpArgs false

/-- The reader in memory: block g. -/
def Rd (w : World) (g : Nat) (s : ByteArray) (p e : Int) : Prop := w.heap[g]? = some (.cells #[.string s, .int .i64 p, .int .i64 e] 56 (0, 0))
theorem Rd.c0 {w : World} {g : Nat} {s : ByteArray} {p e : Int} (h : Rd w g s p e) : w.cell? ⟨g, 0, none⟩ = some (.string s) := by unfold Rd at h; simp [World.cell?, h]
theorem Rd.c1 {w : World} {g : Nat} {s : ByteArray} {p e : Int} (h : Rd w g s p e) : w.cell? ⟨g, 1, none⟩ = some (.int .i64 p) := by unfold Rd at h; simp [World.cell?, h]
theorem Rd.c2 {w : World} {g : Nat} {s : ByteArray} {p e : Int} (h : Rd w g s p e) : w.cell? ⟨g, 2, none⟩ = some (.int .i64 e) := by unfold Rd at h; simp [World.cell?, h]
theorem Rd.fr {w : World} {g : Nat} {s : ByteArray} {p e : Int} (h : Rd w g s p e) (j : Nat) : w.frozen? ⟨g, j, none⟩ = false := by unfold Rd at h; simp [World.frozen?, h]
theorem Rd.lt {w : World} {g : Nat} {s : ByteArray} {p e : Int} (h : Rd w g s p e) : g < w.heap.size := lt_of_block h
theorem Rd.set1 {w : World} {g : Nat} {s : ByteArray} {p e : Int} (h : Rd w g s p e) (q : Int) : Rd (w.setCell ⟨g, 1, none⟩ (.int .i64 q)) g s q e := by
  have hlt := h.lt
  unfold Rd at *
  show (w.heap.modify g _)[g]? = _
  rw [Array.getElem?_eq_getElem (by simpa using hlt), Array.getElem_modify_self]
  rw [Array.getElem?_eq_getElem hlt] at h
  simp only [Option.some.injEq] at h
  rw [h]; simp
theorem Rd.set2 {w : World} {g : Nat} {s : ByteArray} {p e : Int} (h : Rd w g s p e) (x : Int) : Rd (w.setCell ⟨g, 2, none⟩ (.int .i64 x)) g s p x := by
  have hlt := h.lt
  unfold Rd at *
  show (w.heap.modify g _)[g]? = _
  rw [Array.getElem?_eq_getElem (by simpa using hlt), Array.getElem_modify_self]
  rw [Array.getElem?_eq_getElem hlt] at h
  simp only [Option.some.injEq] at h
  rw [h]; simp
/-- Nothing but block g has turned. -/
def Lone (w w' : World) (g : Nat) : Prop := Kept w w' (fun b => b = g) ∧ Below g w w'
theorem Lone.refl (w : World) (g : Nat) : Lone w w g := ⟨Kept.refl w _, Below.refl _ _⟩
theorem Lone.drewN {w w' : World} {g : Nat} (h : Lone w w' g) (n : Nat) : Lone w (w'.drewN n) g := ⟨h.1.drewN n, pw_below_drewN h.2 n⟩
theorem Lone.drew {w w' : World} {g : Nat} (h : Lone w w' g) : Lone w w'.drew g := ⟨h.1.drew, h.2.drew⟩
theorem Lone.set {w w' : World} {g : Nat} (h : Lone w w' g) (j : Nat) (u : Value) : Lone w (w'.setCell ⟨g, j, none⟩ u) g := ⟨h.1.setCell (Or.inl rfl) u, h.2.setCell (Nat.le_refl _) u⟩
theorem Lone.trans {w w' w'' : World} {g : Nat} (h : Lone w w' g) (k : Lone w' w'' g) : Lone w w'' g := ⟨h.1.then_ k.1 (fun b hb => Or.inl hb), h.2.trans k.2⟩
theorem Lone.block {w w' : World} {g b : Nat} {o : Obj} (h : Lone w w' g) (hb : w.heap[b]? = some o) (hne : b ≠ g) : w'.heap[b]? = some o := (h.1.2 b (lt_of_block hb) hne).trans hb
theorem Lone.size {w w' : World} {g : Nat} (h : Lone w w' g) : w.heap.size ≤ w'.heap.size := h.1.1

/-- What num does: the number, the place, the error. -/
def numS (s : ByteArray) (p e : Int) : Int × Int × Int := if e = 0 then (if (takeS s p).2.2 = 0 then ((takeS s p).1, (takeS s p).2.1, 0) else (0, p, (takeS s p).2.2)) else (0, p, e)

set_option maxHeartbeats 1000000 in
set_option maxRecDepth 100000 in
theorem num_any (g : Nat) (s : ByteArray) (p e : Int) (w : World) (hs : Rd w g s p e) (hz : s.size ≤ 1000000000) :
    Calls Try.prog 28 #[.pointer (some ⟨g, 0, none⟩)] w fun x w' => x = .returned (.int .u64 (numS s p e).1) ∧ Rd w' g s (numS s p e).2.1 (numS s p e).2.2 ∧ Lone w w' g := by
  have c0 := hs.c0
  have c1 := hs.c1
  have c2 := hs.c2
  have f1 := hs.fr 1
  have f2 := hs.fr 2
  have ht := octet_Take_eq s (by omega) p 60 (by omega)
  obtain ⟨r1, r2, r3, hr⟩ : ∃ r1 r2 r3, takeS s p = (r1, r2, r3) := ⟨_, _, _, rfl⟩
  unfold numS
  rw [hr] at ht ⊢
  simp only
  have HT := Lib.hid ht
  have HS := Lib.hid hs
  clear ht hr hs
  by_cases he : e = 0
  · subst he
    simp only [if_true]
    by_cases h3 : r3 = 0
    · subst h3
      simp only [if_true]
      go_enter Try.func28, Try.ntmps28
      go_wp2
      go_quiet (first | (go_at_call 38; (with_reducible refine (octet_Take.calls 60 s p r1 r2 0 _ HT.out).mono ?_); rintro e w' ⟨rfl, ⟨nd, rfl⟩⟩; (try first | exact ⟨rfl, _, World.drewN_drewN _ _ _⟩ | exact ⟨rfl, _, Eq.trans (World.drewN_drewN _ _ _) (congrArg (World.drewN _) (Nat.add_assoc _ _ _))⟩)))
      go_wp2
      go_ret
      refine ⟨rfl, ?_, ?_⟩
      · exact Rd.set1 (show Rd (w.drewN _) g s p 0 from HS.out) r2
      · exact ((Lone.refl w g).drewN _).set 1 _
    · simp only [if_neg h3]
      have h3b : (r3 == 0) = false := by simpa using h3
      have h3c : (r3 != 0) = true := by simpa using h3
      go_enter Try.func28, Try.ntmps28
      go_wp2
      go_quiet (first | (go_at_call 38; (with_reducible refine (octet_Take.calls 60 s p r1 r2 r3 _ HT.out).mono ?_); rintro e w' ⟨rfl, ⟨nd, rfl⟩⟩; (try first | exact ⟨rfl, _, World.drewN_drewN _ _ _⟩ | exact ⟨rfl, _, Eq.trans (World.drewN_drewN _ _ _) (congrArg (World.drewN _) (Nat.add_assoc _ _ _))⟩)))
      go_wp2
      go_ret
      refine ⟨rfl, ?_, ?_⟩
      · exact Rd.set2 (show Rd (w.drewN _) g s p 0 from HS.out) r3
      · exact ((Lone.refl w g).drewN _).set 2 _
  · simp only [if_neg he]
    have heb : (e != 0) = true := by simpa using he
    go_enter Try.func28, Try.ntmps28
    go_wp2
    go_ret
    exact ⟨rfl, HS.out, Lone.refl w g⟩
set_option maxHeartbeats 1000000 in
set_option maxRecDepth 100000 in
theorem fail_no (g : Nat) (s : ByteArray) (p e x : Int) (w : World) (hs : Rd w g s p e) :
    Calls Try.prog 29 #[.pointer (some ⟨g, 0, none⟩), .int .i64 x, .bool false] w fun y w' => y = .returned (.tuple #[]) ∧ Rd w' g s p e ∧ Lone w w' g := by
  go_enter Try.func29, Try.ntmps29
  go_wp2
  go_end0
  exact ⟨rfl, hs, Lone.refl w g⟩
set_option maxHeartbeats 1000000 in
set_option maxRecDepth 100000 in
theorem fail_yes (g : Nat) (s : ByteArray) (p e x : Int) (w : World) (hs : Rd w g s p e) :
    Calls Try.prog 29 #[.pointer (some ⟨g, 0, none⟩), .int .i64 x, .bool true] w fun y w' => y = .returned (.tuple #[]) ∧ Rd w' g s p (if e = 0 then x else e) ∧ Lone w w' g := by
  have c2 := hs.c2
  have f2 := hs.fr 2
  by_cases he : e = 0
  · subst he
    simp only [if_true]
    go_enter Try.func29, Try.ntmps29
    go_wp2
    go_end0
    exact ⟨rfl, hs.set2 x, (Lone.refl w g).set 2 _⟩
  · simp only [if_neg he]
    have heb : (e == 0) = false := by simpa using he
    go_enter Try.func29, Try.ntmps29
    go_wp2
    go_end0
    exact ⟨rfl, hs, Lone.refl w g⟩
theorem fail_any (g : Nat) (s : ByteArray) (p e x : Int) (so : Bool) (w : World) (hs : Rd w g s p e) :
    Calls Try.prog 29 #[.pointer (some ⟨g, 0, none⟩), .int .i64 x, .bool so] w fun y w' => y = .returned (.tuple #[]) ∧ Rd w' g s p (if so = true ∧ e = 0 then x else e) ∧ Lone w w' g := by
  cases so with
  | false => simpa using fail_no g s p e x w hs
  | true => simpa using fail_yes g s p e x w hs
end Go.Proofs.Ytggjkijgbpnhiaa.Hand
