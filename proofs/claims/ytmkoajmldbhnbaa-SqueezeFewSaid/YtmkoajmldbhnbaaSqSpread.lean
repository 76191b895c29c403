/- squeeze.Decompress, by hand: number, piece, the loop. -/
import Derived.Test.YtmkoajmldbhnbaaPSqAx1
import Derived.OneCell
import Derived.OwnWalk
import Derived.WalkSpells
import Derived.BigQuiet
import Derived.Deep.QuietTactic
import Derived.Deep.RegionLaw
import Derived.Deep.AppendLies
import Derived.Lib.AppendStr
import Derived.Lib.Hide
import Derived.IntWalk
namespace Go.Proofs.Ytmkoajmldbhnbaa.Hand
open Go.RowKit Go.Proofs.YtmkoajmldbhnbaaW.PrintWords Go.Proofs.YtmkoajmldbhnbaaW.PrintLast Go.Proofs.YtmkoajmldbhnbaaW.PrintMore
open Go.Proofs.Ytmkoajmldbhnbaa.PSqA
set_option linter.unusedVariables false
set_option linter.unusedSimpArgs false

/-- The spreader in memory: block g. -/
def Spr (w : World) (g : Nat) (s : ByteArray) (p : Int) (out : List Int) : Prop :=
  ∃ v, w.heap[g]? = some (.cells #[.string s, .int .i64 p, v] 48 (0, 0)) ∧ w.ownsRow (g + 1) 5 1 v out.length (out.map (Value.int .u8))
theorem sp0 {w : World} {g : Nat} {s : ByteArray} {p : Int} {v : Value} (h : w.heap[g]? = some (.cells #[.string s, .int .i64 p, v] 48 (0, 0))) : w.cell? ⟨g, 0, none⟩ = some (.string s) := by simp [World.cell?, h]
theorem sp1 {w : World} {g : Nat} {s : ByteArray} {p : Int} {v : Value} (h : w.heap[g]? = some (.cells #[.string s, .int .i64 p, v] 48 (0, 0))) : w.cell? ⟨g, 1, none⟩ = some (.int .i64 p) := by simp [World.cell?, h]
theorem sp2 {w : World} {g : Nat} {s : ByteArray} {p : Int} {v : Value} (h : w.heap[g]? = some (.cells #[.string s, .int .i64 p, v] 48 (0, 0))) : w.cell? ⟨g, 2, none⟩ = some v := by simp [World.cell?, h]
theorem sf {w : World} {g : Nat} {s : ByteArray} {p : Int} {v : Value} (h : w.heap[g]? = some (.cells #[.string s, .int .i64 p, v] 48 (0, 0))) (j : Nat) : w.frozen? ⟨g, j, none⟩ = false := by simp [World.frozen?, h]
theorem spr_set1 {w : World} {g : Nat} {s : ByteArray} {p q : Int} {v : Value} (h : w.heap[g]? = some (.cells #[.string s, .int .i64 p, v] 48 (0, 0))) : (w.setCell ⟨g, 1, none⟩ (.int .i64 q)).heap[g]? = some (.cells #[.string s, .int .i64 q, v] 48 (0, 0)) := by
  have hlt := lt_of_block h
  show (w.heap.modify g _)[g]? = _
  rw [Array.getElem?_eq_getElem (by simpa using hlt), Array.getElem_modify_self]
  rw [Array.getElem?_eq_getElem hlt] at h
  simp only [Option.some.injEq] at h
  rw [h]; simp
theorem spr_set2 {w : World} {g : Nat} {s : ByteArray} {p : Int} {v u : Value} (h : w.heap[g]? = some (.cells #[.string s, .int .i64 p, v] 48 (0, 0))) : (w.setCell ⟨g, 2, none⟩ u).heap[g]? = some (.cells #[.string s, .int .i64 p, u] 48 (0, 0)) := by
  have hlt := lt_of_block h
  show (w.heap.modify g _)[g]? = _
  rw [Array.getElem?_eq_getElem (by simpa using hlt), Array.getElem_modify_self]
  rw [Array.getElem?_eq_getElem hlt] at h
  simp only [Option.some.injEq] at h
  rw [h]; simp
theorem own_set {w : World} {g j : Nat} {u v : Value} {n : Nat} {xs : List Value} (h : w.ownsRow (g + 1) 5 1 v n xs) : (w.setCell ⟨g, j, none⟩ u).ownsRow (g + 1) 5 1 v n xs :=
  ownsRow_setCell_other h (fun e => by have := (h.lt g e).1; omega) u

set_option maxHeartbeats 1000000 in
set_option maxRecDepth 100000 in
theorem number_any (k g : Nat) (s : ByteArray) (p : Int) (out : List Int) (r1 r2 r3 p' : Int) (w : World) (hs : Spr w g s p out) (h : octet_Take.f k s p = some (r1, r2, r3)) (hp : p' = if r3 = 0 then r2 else p) :
    Calls Try.prog 21 #[.pointer (some ⟨g, 0, none⟩)] w fun e w' => e = .returned (.tuple #[.int .u64 r1, .int .i64 r3]) ∧ Spr w' g s p' out ∧ Below g w w' := by
  obtain ⟨v, hb, ho⟩ := hs
  have c0 := sp0 hb
  have c1 := sp1 hb
  have f1 := sf hb 1
  have HO := Lib.hid ho
  have HT := Lib.hid h
  have HP := Lib.hid hp
  clear ho h hp
  go_enter Try.func21, Try.ntmps21
  by_cases hz : (r3 == 0) = true
  · go_wp2
    go_quiet (first | (go_at_call 25; (with_reducible refine (octet_Take.calls k s p r1 r2 r3 _ HT.out).mono ?_); rintro e w' ⟨rfl, ⟨nd, rfl⟩⟩; (try first | exact ⟨rfl, _, World.drewN_drewN _ _ _⟩ | exact ⟨rfl, _, Eq.trans (World.drewN_drewN _ _ _) (congrArg (World.drewN _) (Nat.add_assoc _ _ _))⟩)))
    go_wp2
    go_ret2
    have hz' : r3 = 0 := by simpa using hz
    have hp := HP.out
    rw [if_pos hz'] at hp
    subst hp
    exact ⟨rfl, ⟨v, spr_set1 (w := w.drewN _) hb, own_set (w := w.drewN _) HO.out⟩, (pw_below_drewN (Below.refl _ _) _).setCell (by show g ≤ g; omega) _⟩
  · replace hz := Bool.eq_false_iff.mpr hz
    go_wp2
    go_quiet (first | (go_at_call 25; (with_reducible refine (octet_Take.calls k s p r1 r2 r3 _ HT.out).mono ?_); rintro e w' ⟨rfl, ⟨nd, rfl⟩⟩; (try first | exact ⟨rfl, _, World.drewN_drewN _ _ _⟩ | exact ⟨rfl, _, Eq.trans (World.drewN_drewN _ _ _) (congrArg (World.drewN _) (Nat.add_assoc _ _ _))⟩)))
    go_wp2
    go_ret2
    have hz' : ¬ r3 = 0 := by simpa using hz
    have hp := HP.out
    rw [if_neg hz'] at hp
    subst hp
    exact ⟨rfl, ⟨v, hb, HO.out⟩, pw_below_drewN (Below.refl _ _) _⟩
theorem own_shape {w : World} {base e : Nat} {v : Value} {n : Nat} {xs : List Value} (h : w.ownsRow base e 1 v n xs) : ∃ A m c, v = .slice A m c := by
  rcases h.2 with ⟨rfl, _⟩ | ⟨g, cap, cur, rfl, _⟩
  · exact ⟨_, _, _, rfl⟩
  · exact ⟨_, _, _, rfl⟩
theorem lit_end {w W5 w2 : World} {g : Nat} {s x : ByteArray} {p : Int} {out : List Int} {v v' u : Value} (hb : w2.heap[g]? = some (.cells #[.string s, .int .i64 p, u] 48 (0, 0))) (ho : w2.ownsRow (g + 1) 5 1 v' (out.length + x.size) (out.map (Value.int .u8) ++ Lib.strCells x))
    (hx : (bytesOf x).map (Value.int .u8) = Lib.strCells x) (hB : Below g w W5) (hg : W5.drew.grownBy w2 v.ownBlock) (o6 : W5.drew.ownsRow (g + 1) 5 1 v out.length (out.map (Value.int .u8))) (hgl : g < W5.drew.heap.size) :
    Spr (w2.setCell ⟨g, 2, none⟩ v') g s p (out ++ bytesOf x) ∧ Below g w (w2.setCell ⟨g, 2, none⟩ v') := by
  refine ⟨⟨v', spr_set2 hb, own_set ?_⟩, ?_⟩
  · rw [List.length_append, bytesOf_length, List.map_append, hx]; exact ho
  · have hlt := lt_of_block hb
    have h1 : Below g w W5.drew := below_drew1 hB
    have h2 : Below g W5.drew w2 := ⟨hg.os, hg.tape, hg.output, hg.size, fun k hk => hg.block k (by omega) (fun e => by have := (o6.lt k e.symm).1; omega)⟩
    exact (h1.trans h2).setCell (by show g ≤ g; omega) _
theorem wp_gen2 {P : Program} {c : Code} {Q : Exit → Act → World → Prop} {a : Act} {w : World} (R : World → Prop) (hr : R w) (h : ∀ W, R W → Code.wp P c Q a W) : Code.wp P c Q a w := h w hr
theorem infoU8 : (Try.prog.info? 5).map (fun i => (i.zero, i.size, i.bytes)) = some (some (.int .u8 0), 1, 1) := by kernel_rfl
/-- append of a string's bytes, as one step of a region that draws. -/
theorem step_append_string {P : Program} (w : World) {ops : Array Oper} {o : Oper} {a : Act} {K : Act → World → Prop} {Q : Exit → Act → World → Prop} {E : Prop} (hgd : o.guard = none) (sl x : Operand) (t u : TypeId)
    (ho : o.op = .call { callee := .builtin .append, args := #[sl, x], argTypes := #[t, u] })
    (base : Nat) (e : TypeId) (i : TypeInfo) (ht : P.underlying t = some (.slice e)) (hu : P.underlying u = some .string) (hi : P.info? e = some i) (hz : i.zero = some (.int .u8 0))
    (hsize : i.size = 1) (hby : i.bytes = 1)
    (v : Value) (n : Nat) (xs : List Value) (hs : a.eval sl = v) (hown : w.ownsRow base e 1 v n xs) (s : ByteArray) (hx : a.eval x = .string s)
    (h63 : n + s.size ≤ maxLen) (hbytes : n + s.size ≤ 140737488355328) (hbase : base ≤ w.heap.size)
    (h : ∀ v' w', w'.ownsRow base e 1 v' (n + s.size) (xs ++ Lib.strCells s) → w.grownBy w' v.ownBlock → K (a.put o.dst v') w') :
    if Region.wanted o (yielded ops a.tmps) = true then Oper.wp P o a w K Q else E := by
  have hw : Region.wanted o (yielded ops a.tmps) = true := by simp [Region.wanted, hgd]
  rw [if_pos hw]
  obtain ⟨v', w', hr, h2, h3, _⟩ := Lib.run_append_own_string (P := P) w base t u o.type e i ht hu hi hz hsize hby v n xs hown s h63 hbytes hbase
  unfold Oper.wp execOp
  simp only [ho, resolve, invoke, builtin, Sem.run_bind, Sem.run_pure, Result.andThen_ok, List.map_toArray, List.map_cons, List.map_nil, hs, hx, hr]
  exact h v' w' h2 h3

def copyN (out : List Int) (b : Nat) : Nat → List Int
  | 0 => out
  | n + 1 => copyN out b n ++ [(copyN out b n).getD ((copyN out b n).length - b) 0]
theorem copyN_length (out : List Int) (b n : Nat) : (copyN out b n).length = out.length + n := by
  induction n with
  | zero => rfl
  | succ n ih => rw [copyN, List.length_append, ih]; simp; omega
/-- What piece does: the error, the place, the bytes. T: octet.Take of the string. -/
def pieceT (T : Int → Int × Int × Int) (s : ByteArray) (p : Int) (out : List Int) (left : Int) : Int × Int × List Int :=
  if (T p).2.2 = 0 then
    (if (T p).1 / 2 < 1 ∨ ((T p).1 % 2 = 1 ∧ (T p).1 / 2 < 4) ∨ (T p).1 / 2 > left then (2, (T p).2.1, out)
     else if (T p).1 % 2 = 1 then
       (if (T (T p).2.1).2.2 = 0 then
         (if (T (T p).2.1).1 < 1 ∨ (T (T p).2.1).1 > out.length then (2, (T (T p).2.1).2.1, out)
          else (0, (T (T p).2.1).2.1, copyN out (T (T p).2.1).1.toNat ((T p).1 / 2).toNat))
        else ((T (T p).2.1).2.2, (T p).2.1, out))
     else (if (s.size : Int) - (T p).2.1 < (T p).1 / 2 then (3, (T p).2.1, out)
       else (0, (T p).2.1 + (T p).1 / 2, out ++ bytesOf (s.extract (T p).2.1.toNat ((T p).2.1 + (T p).1 / 2).toNat))))
  else ((T p).2.2, p, out)
end Go.Proofs.Ytmkoajmldbhnbaa.Hand
